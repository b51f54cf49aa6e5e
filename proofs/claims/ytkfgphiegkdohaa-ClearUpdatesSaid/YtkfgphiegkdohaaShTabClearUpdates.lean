import Derived.Test.YtkfgphiegkdohaaShH
set_option linter.all false
set_option linter.unusedVariables false
set_option linter.unusedSimpArgs false
set_option autoImplicit false
set_option linter.all false
set_option maxRecDepth 4096
namespace Go.Sh.T
open Go.Sh
def f_law07_ClearUpdates : FuncId := 11
def f_class_May : FuncId := 12
def f_ref06_May : FuncId := 13
def f_class_On : FuncId := 14
def f_ref06_On : FuncId := 15
def f_class_Foot : FuncId := 16
def f_ref06_Foot : FuncId := 17
def f_law06_Both : FuncId := 19
def f_class_Stands : FuncId := 20
def f_ref06_Stands : FuncId := 21
def f_clear_New : FuncId := 22
def f_law07_awake : FuncId := 23
def f_ref04_All : FuncId := 24
def f_ref06_Clear : FuncId := 25
def f_clear_Field_At : FuncId := 26
def f_law07_right : FuncId := 29
def f_clear_Field_Epoch : FuncId := 30
def f_clear_Field_Update : FuncId := 40
def f_law07_Does : FuncId := 41
def f_grid_World_Epoch : FuncId := 42
def f_cell_May : FuncId := 43
def f_ref03_May : FuncId := 44
def f_grid_New : FuncId := 45
def f_ref04_New : FuncId := 46
def f_cell_Within : FuncId := 47
def f_grid_World_All : FuncId := 48
def f_cell_Cells : FuncId := 49
def f_grid_World_Terrain : FuncId := 50
def f_grid_World_At : FuncId := 51
def f_ref03_Within : FuncId := 52
def f_ref04_Terrain : FuncId := 53
def f_ref04_At : FuncId := 54
def f_clear_Field_reckon : FuncId := 55
def f_cell_Has : FuncId := 56
def f_grid_World_Dirty : FuncId := 66
def f_grid_World_Raze : FuncId := 67
def f_ref04_Raze : FuncId := 68
def f_grid_World_Place : FuncId := 69
def f_ref04_Place : FuncId := 70
def f_grid_World_is : FuncId := 71
def f_cell_Near : FuncId := 72
def f_cell_side : FuncId := 73
def f_cell_last : FuncId := 74
def f_ref03_Near : FuncId := 75
def f_ref03_Last : FuncId := 76
def f_slices_Clone_byte_byte : FuncId := 77
def f_ref04_Check : FuncId := 78
def f_cell_Cells_1 : FuncId := 79
def f_ref03_Has : FuncId := 80
def f_clear_Field_tile : FuncId := 81
def f_slices_Clone_api_Rect_api_Rect : FuncId := 86
def f_ref04_place : FuncId := 87
def f_grid_World_May : FuncId := 88
def f_ref04_May : FuncId := 89
def f_cell_near : FuncId := 90
def f_ref03_near : FuncId := 91
def f_ref04_MayBe : FuncId := 92
def f_ref04_share : FuncId := 93
def f_grid_may : FuncId := 94
def f_ref03_Meet : FuncId := 95
def s_cell_near_p0 : SCode := (.region false [⟨some 3, .mv (.t 0), none, false⟩,
  ⟨some 4, .bin .geq (.t 3) (.v (.int .i64 (-1048576))), none, false⟩,
  ⟨some 5, .mv (.t 4), none, false⟩,
  ⟨some 6, .mv (.t 0), (some (5, true)), false⟩,
  ⟨some 7, .bin .leq (.t 6) (.v (.int .i64 1048576)), (some (5, true)), false⟩,
  ⟨some 8, .pick (.t 5) (.t 7) (.v (.bool false)), none, false⟩,
  ⟨some 2, .mv (.t 8), none, false⟩])
def s_cell_near : SFn := ⟨1, [.t 2], (.seq (.region false [⟨some 2, .mv (.v (.bool false)), none, false⟩]) (.seq (.kp [2] s_cell_near_p0) .ret))⟩
def s_cell_Near_p0 : SCode := (.region false [⟨some 3, .faddr 0 (.t 1), none, false⟩,
  ⟨some 4, .load none (.t 3), none, false⟩,
  ⟨some 5, .call f_cell_near [(.t 4)], none, false⟩,
  ⟨some 6, .mv (.t 5), none, false⟩,
  ⟨some 7, .faddr 1 (.t 1), (some (6, true)), false⟩,
  ⟨some 8, .load none (.t 7), (some (6, true)), false⟩,
  ⟨some 9, .call f_cell_near [(.t 8)], (some (6, true)), false⟩,
  ⟨some 10, .pick (.t 6) (.t 9) (.v (.bool false)), none, false⟩,
  ⟨some 2, .mv (.t 10), none, false⟩])
def s_cell_Near : SFn := ⟨1, [.t 2], (.seq (.region false [⟨some 1, .box true 2 (.t 0), none, false⟩,
  ⟨some 2, .mv (.v (.bool false)), none, false⟩]) (.seq (.kp [2] s_cell_Near_p0) .ret))⟩
def s_cell_last_p0 : SCode := (.region false [⟨some 3, .faddr 0 (.t 1), none, false⟩,
  ⟨some 4, .faddr 0 (.t 3), none, false⟩,
  ⟨some 5, .load none (.t 4), none, false⟩,
  ⟨some 6, .faddr 2 (.t 1), none, false⟩,
  ⟨some 7, .load none (.t 6), none, false⟩,
  ⟨some 8, .bin .add (.t 5) (.t 7), none, false⟩,
  ⟨some 9, .bin .sub (.t 8) (.v (.int .i64 1)), none, false⟩,
  ⟨some 10, .faddr 0 (.t 1), none, false⟩,
  ⟨some 11, .faddr 1 (.t 10), none, false⟩,
  ⟨some 12, .load none (.t 11), none, false⟩,
  ⟨some 13, .faddr 3 (.t 1), none, false⟩,
  ⟨some 14, .load none (.t 13), none, false⟩,
  ⟨some 15, .bin .add (.t 12) (.t 14), none, false⟩,
  ⟨some 16, .bin .sub (.t 15) (.v (.int .i64 1)), none, false⟩,
  ⟨some 17, .build [(.int .i64 0), (.int .i64 0)] [(0, 1, (.t 9)), (1, 1, (.t 16))], none, false⟩,
  ⟨none, .store 2 [] (.t 2) (.t 17), none, false⟩])
def s_cell_last : SFn := ⟨1, [.cell 2 (some 2)], (.seq (.region false [⟨some 1, .box true 4 (.t 0), none, false⟩,
  ⟨some 2, .alloc true [(.int .i64 0), (.int .i64 0)], none, false⟩]) (.seq (.kp [2] s_cell_last_p0) .ret))⟩
def s_cell_side_p0 : SCode := (.region false [⟨some 3, .mv (.t 0), none, false⟩,
  ⟨some 4, .bin .geq (.t 3) (.v (.int .i64 1)), none, false⟩,
  ⟨some 5, .mv (.t 4), none, false⟩,
  ⟨some 6, .mv (.t 0), (some (5, true)), false⟩,
  ⟨some 7, .bin .leq (.t 6) (.v (.int .i64 1048576)), (some (5, true)), false⟩,
  ⟨some 8, .pick (.t 5) (.t 7) (.v (.bool false)), none, false⟩,
  ⟨some 2, .mv (.t 8), none, false⟩])
def s_cell_side : SFn := ⟨1, [.t 2], (.seq (.region false [⟨some 2, .mv (.v (.bool false)), none, false⟩]) (.seq (.kp [2] s_cell_side_p0) .ret))⟩
def s_cell_May_p0 : SCode := (.region false [⟨some 3, .faddr 0 (.t 1), none, false⟩,
  ⟨some 4, .load (some 2) (.t 3), none, false⟩,
  ⟨some 5, .call f_cell_Near [(.t 4)], none, false⟩,
  ⟨some 6, .mv (.t 5), none, false⟩,
  ⟨some 7, .faddr 2 (.t 1), (some (6, true)), false⟩,
  ⟨some 8, .load none (.t 7), (some (6, true)), false⟩,
  ⟨some 9, .call f_cell_side [(.t 8)], (some (6, true)), false⟩,
  ⟨some 10, .pick (.t 6) (.t 9) (.v (.bool false)), none, false⟩,
  ⟨some 11, .mv (.t 10), none, false⟩,
  ⟨some 12, .faddr 3 (.t 1), (some (11, true)), false⟩,
  ⟨some 13, .load none (.t 12), (some (11, true)), false⟩,
  ⟨some 14, .call f_cell_side [(.t 13)], (some (11, true)), false⟩,
  ⟨some 15, .pick (.t 11) (.t 14) (.v (.bool false)), none, false⟩,
  ⟨some 16, .mv (.t 15), none, false⟩,
  ⟨some 17, .load (some 4) (.t 1), (some (16, true)), false⟩,
  ⟨some 18, .call f_cell_last [(.t 17)], (some (16, true)), false⟩,
  ⟨some 19, .call f_cell_Near [(.t 18)], (some (16, true)), false⟩,
  ⟨some 20, .pick (.t 16) (.t 19) (.v (.bool false)), none, false⟩,
  ⟨some 2, .mv (.t 20), none, false⟩])
def s_cell_May : SFn := ⟨1, [.t 2], (.seq (.region false [⟨some 1, .box true 4 (.t 0), none, false⟩,
  ⟨some 2, .mv (.v (.bool false)), none, false⟩]) (.seq (.kp [2] s_cell_May_p0) .ret))⟩
def s_cell_Has_p0 : SCode := (.seq (.region false [⟨some 6, .load (some 4) (.t 2), none, false⟩,
  ⟨some 7, .call f_cell_May [(.t 6)], none, false⟩,
  ⟨some 8, .un .not (.t 7), none, false⟩]) (.cond (.t 8) (.seq (.region false [⟨some 4, .mv (.v (.bool false)), none, false⟩]) .ret) .skip))
def s_cell_Has_p1 : SCode := (.region false [⟨some 9, .load (some 4) (.t 2), none, false⟩,
  ⟨some 10, .call f_cell_last [(.t 9)], none, false⟩,
  ⟨some 5, .alloc true [(.int .i64 0), (.int .i64 0)], none, false⟩,
  ⟨none, .store 2 [] (.t 5) (.t 10), none, false⟩])
def s_cell_Has_p2 : SCode := (.region false [⟨some 11, .faddr 0 (.t 3), none, false⟩,
  ⟨some 12, .load none (.t 11), none, false⟩,
  ⟨some 13, .faddr 0 (.t 2), none, false⟩,
  ⟨some 14, .faddr 0 (.t 13), none, false⟩,
  ⟨some 15, .load none (.t 14), none, false⟩,
  ⟨some 16, .bin .geq (.t 12) (.t 15), none, false⟩,
  ⟨some 17, .mv (.t 16), none, false⟩,
  ⟨some 18, .faddr 0 (.t 3), (some (17, true)), false⟩,
  ⟨some 19, .load none (.t 18), (some (17, true)), false⟩,
  ⟨some 20, .faddr 0 (.t 5), (some (17, true)), false⟩,
  ⟨some 21, .load none (.t 20), (some (17, true)), false⟩,
  ⟨some 22, .bin .leq (.t 19) (.t 21), (some (17, true)), false⟩,
  ⟨some 23, .pick (.t 17) (.t 22) (.v (.bool false)), none, false⟩,
  ⟨some 24, .mv (.t 23), none, false⟩,
  ⟨some 25, .faddr 1 (.t 3), (some (24, true)), false⟩,
  ⟨some 26, .load none (.t 25), (some (24, true)), false⟩,
  ⟨some 27, .faddr 0 (.t 2), (some (24, true)), false⟩,
  ⟨some 28, .faddr 1 (.t 27), (some (24, true)), false⟩,
  ⟨some 29, .load none (.t 28), (some (24, true)), false⟩,
  ⟨some 30, .bin .geq (.t 26) (.t 29), (some (24, true)), false⟩,
  ⟨some 31, .pick (.t 24) (.t 30) (.v (.bool false)), none, false⟩,
  ⟨some 32, .mv (.t 31), none, false⟩,
  ⟨some 33, .faddr 1 (.t 3), (some (32, true)), false⟩,
  ⟨some 34, .load none (.t 33), (some (32, true)), false⟩,
  ⟨some 35, .faddr 1 (.t 5), (some (32, true)), false⟩,
  ⟨some 36, .load none (.t 35), (some (32, true)), false⟩,
  ⟨some 37, .bin .leq (.t 34) (.t 36), (some (32, true)), false⟩,
  ⟨some 38, .pick (.t 32) (.t 37) (.v (.bool false)), none, false⟩,
  ⟨some 4, .mv (.t 38), none, false⟩])
def s_cell_Has_p3 : SCode := (.seq (.region false [⟨some 2, .box true 4 (.t 0), none, false⟩,
  ⟨some 3, .box true 2 (.t 1), none, false⟩,
  ⟨some 4, .mv (.v (.bool false)), none, false⟩]) (.seq (.kp [2, 3] s_cell_Has_p0) (.seq s_cell_Has_p1 (.seq (.kp [4] s_cell_Has_p2) .ret))))
def s_cell_Has : SFn := ⟨2, [.t 4], s_cell_Has_p3⟩
def s_clear_Field_At_p0 : SCode := (.region true [⟨some 5, .mv (.t 0), none, false⟩,
  ⟨some 6, .eq false false [.ptr] (.t 5) (.v .nilp), none, false⟩,
  ⟨some 7, .mv (.t 6), none, false⟩,
  ⟨some 8, .mv (.t 0), (some (7, false)), true⟩,
  ⟨some 9, .nilck (.t 8), (some (7, false)), true⟩,
  ⟨some 10, .faddr 2 (.t 9), (some (7, false)), true⟩,
  ⟨some 11, .load (some 4) (.t 10), (some (7, false)), true⟩,
  ⟨some 12, .load (some 2) (.t 3), (some (7, false)), true⟩,
  ⟨some 13, .call f_cell_Has [(.t 11), (.t 12)], (some (7, false)), false⟩,
  ⟨some 14, .un .not (.t 13), (some (7, false)), false⟩,
  ⟨some 15, .pick (.t 7) (.v (.bool true)) (.t 14), none, false⟩])
def s_clear_Field_At_p1 : SCode := (.region true [⟨some 16, .mv (.t 0), none, true⟩,
  ⟨some 17, .nilck (.t 16), none, true⟩,
  ⟨some 18, .faddr 6 (.t 17), none, true⟩,
  ⟨some 19, .load none (.t 18), none, true⟩,
  ⟨some 20, .faddr 1 (.t 3), none, true⟩,
  ⟨some 21, .load none (.t 20), none, true⟩,
  ⟨some 22, .mv (.t 0), none, true⟩,
  ⟨some 23, .nilck (.t 22), none, true⟩,
  ⟨some 24, .faddr 2 (.t 23), none, true⟩,
  ⟨some 25, .faddr 2 (.t 24), none, true⟩,
  ⟨some 26, .load none (.t 25), none, true⟩,
  ⟨some 27, .bin .mul (.t 21) (.t 26), none, true⟩,
  ⟨some 28, .faddr 0 (.t 3), none, true⟩,
  ⟨some 29, .load none (.t 28), none, true⟩,
  ⟨some 30, .bin .add (.t 27) (.t 29), none, true⟩,
  ⟨some 31, .iaddr 1 (.t 19) (.t 30), none, false⟩,
  ⟨some 32, .load none (.t 31), none, false⟩,
  ⟨some 4, .mv (.t 32), none, false⟩])
def s_clear_Field_At_p2 : SCode := (.seq (.region false [⟨some 3, .box true 2 (.t 1), none, false⟩,
  ⟨some 4, .mv (.v (.int .i64 0)), none, false⟩]) (.seq (.kp [0, 3] (.seq (.kp [0, 3, 15] s_clear_Field_At_p0) (.cond (.t 15) (.seq (.region false [⟨some 4, .mv (.v (.int .i64 0)), none, false⟩]) .ret) .skip))) (.seq (.kp [4] s_clear_Field_At_p1) .ret)))
def s_clear_Field_At : SFn := ⟨2, [.t 4], s_clear_Field_At_p2⟩
def s_clear_Field_Epoch_p0 : SCode := (.seq (.region false [⟨some 3, .mv (.t 0), none, false⟩,
  ⟨some 4, .eq false false [.ptr] (.t 3) (.v .nilp), none, false⟩]) (.cond (.t 4) (.seq (.region false [⟨some 2, .mv (.v (.int .i64 0)), none, false⟩]) .ret) .skip))
def s_clear_Field_Epoch_p1 : SCode := (.region false [⟨some 5, .mv (.t 0), none, false⟩,
  ⟨some 6, .nilck (.t 5), none, false⟩,
  ⟨some 7, .faddr 7 (.t 6), none, false⟩,
  ⟨some 8, .load none (.t 7), none, false⟩,
  ⟨some 2, .mv (.t 8), none, false⟩])
def s_clear_Field_Epoch : SFn := ⟨1, [.t 2], (.seq (.region false [⟨some 2, .mv (.v (.int .i64 0)), none, false⟩]) (.seq (.kp [0] s_clear_Field_Epoch_p0) (.seq (.kp [2] s_clear_Field_Epoch_p1) .ret)))⟩
def s_cell_Cells_1_p0 : SCode := (.seq (.region false [⟨some 5, .load (some 4) (.t 1), none, false⟩,
  ⟨some 6, .call f_cell_May [(.t 5)], none, false⟩,
  ⟨some 7, .un .not (.t 6), none, false⟩]) (.cond (.t 7) .ret .skip))
def s_cell_Cells_1_p1 : SCode := (.kp [0, 1, 3, 9, 10, 14, 15] (.region false [⟨some 13, .faddr 2 (.t 1), none, false⟩,
  ⟨some 14, .load none (.t 13), none, false⟩,
  ⟨some 15, .mv (.v (.int .i64 0)), none, false⟩]))
def s_cell_Cells_1_p2 : SCode := (.region false [⟨some 18, .mv (.t 0), none, false⟩,
  ⟨some 19, .faddr 0 (.t 1), none, false⟩,
  ⟨some 20, .faddr 0 (.t 19), none, false⟩,
  ⟨some 21, .load none (.t 20), none, false⟩,
  ⟨some 22, .mv (.t 4), none, false⟩,
  ⟨some 23, .bin .add (.t 21) (.t 22), none, false⟩,
  ⟨some 24, .faddr 0 (.t 1), none, false⟩,
  ⟨some 25, .faddr 1 (.t 24), none, false⟩,
  ⟨some 26, .load none (.t 25), none, false⟩,
  ⟨some 27, .mv (.t 3), none, false⟩,
  ⟨some 28, .bin .add (.t 26) (.t 27), none, false⟩,
  ⟨some 29, .build [(.int .i64 0), (.int .i64 0)] [(0, 1, (.t 23)), (1, 1, (.t 28))], none, false⟩,
  ⟨some 30, .callv (.t 18) [(.t 29)], none, false⟩,
  ⟨some 31, .un .not (.t 30), none, false⟩])
def s_cell_Cells_1_p3 : SCode := (.block 3 (.seq (.region false [⟨some 17, .mv (.t 15), none, false⟩,
  ⟨some 4, .mv (.t 17), none, false⟩]) (.seq (.kp [0, 1, 3, 9, 10, 14, 15, 31] s_cell_Cells_1_p2) (.cond (.t 31) .ret .skip))))
def s_cell_Cells_1_p4 : SCode := (.seq (.kp [0, 1, 3, 9, 10, 14, 15] (.cond (.t 16) .skip (.exit 2))) (.seq (.kp [0, 1, 3, 9, 10, 14, 15] s_cell_Cells_1_p3) (.region false [⟨some 32, .bin .add (.t 15) (.v (.int .i64 1)), none, false⟩,
  ⟨some 15, .mv (.t 32), none, false⟩])))
def s_cell_Cells_1_p5 : SCode := (.seq (.region false [⟨some 16, .bin .lss (.t 15) (.t 14), none, false⟩]) s_cell_Cells_1_p4)
def s_cell_Cells_1_p6 : SCode := (.block 1 (.seq (.region false [⟨some 12, .mv (.t 10), none, false⟩,
  ⟨some 3, .mv (.t 12), none, false⟩]) (.seq s_cell_Cells_1_p1 (.block 2 (.loop (some [0, 1, 3, 9, 10, 14, 15]) s_cell_Cells_1_p5)))))
def s_cell_Cells_1_p7 : SCode := (.seq (.kp [0, 1, 9, 10] (.cond (.t 11) .skip (.exit 0))) (.seq (.kp [0, 1, 9, 10] s_cell_Cells_1_p6) (.region false [⟨some 33, .bin .add (.t 10) (.v (.int .i64 1)), none, false⟩,
  ⟨some 10, .mv (.t 33), none, false⟩])))
def s_cell_Cells_1_p8 : SCode := (.seq (.region false [⟨some 11, .bin .lss (.t 10) (.t 9), none, false⟩]) s_cell_Cells_1_p7)
def s_cell_Cells_1_p9 : SCode := (.seq (.kp [0, 1, 9, 10] (.region false [⟨some 8, .faddr 3 (.t 1), none, false⟩,
  ⟨some 9, .load none (.t 8), none, false⟩,
  ⟨some 10, .mv (.v (.int .i64 0)), none, false⟩])) (.block 0 (.loop (some [0, 1, 9, 10]) s_cell_Cells_1_p8)))
def s_cell_Cells_1 : SFn := ⟨2, [], (.seq (.kp [0, 1] s_cell_Cells_1_p0) s_cell_Cells_1_p9)⟩
def s_cell_Cells_p0 : SCode := (.seq (.region false [⟨some 1, .box false 4 (.t 0), none, false⟩,
  ⟨some 2, .mv (.v .nilf), none, false⟩]) (.seq (.region false [⟨some 3, .mkfn f_cell_Cells_1 [] [(.t 1)], none, false⟩,
  ⟨some 2, .mv (.t 3), none, false⟩]) .ret))
def s_cell_Cells : SFn := ⟨1, [.t 2], s_cell_Cells_p0⟩
def s_cell_Within_p0 : SCode := (.region true [⟨some 5, .load (some 4) (.t 2), none, false⟩,
  ⟨some 6, .call f_cell_May [(.t 5)], none, false⟩,
  ⟨some 7, .mv (.t 6), none, false⟩,
  ⟨some 8, .load (some 4) (.t 3), (some (7, true)), true⟩,
  ⟨some 9, .faddr 0 (.t 2), (some (7, true)), true⟩,
  ⟨some 10, .load (some 2) (.t 9), (some (7, true)), true⟩,
  ⟨some 11, .call f_cell_Has [(.t 8), (.t 10)], (some (7, true)), false⟩,
  ⟨some 12, .pick (.t 7) (.t 11) (.v (.bool false)), none, false⟩,
  ⟨some 13, .mv (.t 12), none, false⟩,
  ⟨some 14, .load (some 4) (.t 3), (some (13, true)), true⟩,
  ⟨some 15, .load (some 4) (.t 2), (some (13, true)), true⟩,
  ⟨some 16, .call f_cell_last [(.t 15)], (some (13, true)), true⟩,
  ⟨some 17, .call f_cell_Has [(.t 14), (.t 16)], (some (13, true)), false⟩,
  ⟨some 18, .pick (.t 13) (.t 17) (.v (.bool false)), none, false⟩,
  ⟨some 4, .mv (.t 18), none, false⟩])
def s_cell_Within_p1 : SCode := (.seq (.region false [⟨some 2, .box true 4 (.t 0), none, false⟩,
  ⟨some 3, .box true 4 (.t 1), none, false⟩,
  ⟨some 4, .mv (.v (.bool false)), none, false⟩]) (.seq (.kp [4] s_cell_Within_p0) .ret))
def s_cell_Within : SFn := ⟨2, [.t 4], s_cell_Within_p1⟩
def s_class_May_p0 : SCode := (.region false [⟨some 3, .faddr 0 (.t 1), none, false⟩,
  ⟨some 4, .load none (.t 3), none, false⟩,
  ⟨some 5, .bin .geq (.t 4) (.v (.int .i64 0)), none, false⟩,
  ⟨some 6, .mv (.t 5), none, false⟩,
  ⟨some 7, .faddr 0 (.t 1), (some (6, true)), false⟩,
  ⟨some 8, .load none (.t 7), (some (6, true)), false⟩,
  ⟨some 9, .bin .lss (.t 8) (.v (.int .i64 4)), (some (6, true)), false⟩,
  ⟨some 10, .pick (.t 6) (.t 9) (.v (.bool false)), none, false⟩,
  ⟨some 11, .mv (.t 10), none, false⟩,
  ⟨some 12, .faddr 1 (.t 1), (some (11, true)), false⟩,
  ⟨some 13, .load none (.t 12), (some (11, true)), false⟩,
  ⟨some 14, .bin .geq (.t 13) (.v (.int .i64 1)), (some (11, true)), false⟩,
  ⟨some 15, .pick (.t 11) (.t 14) (.v (.bool false)), none, false⟩,
  ⟨some 16, .mv (.t 15), none, false⟩,
  ⟨some 17, .faddr 1 (.t 1), (some (16, true)), false⟩,
  ⟨some 18, .load none (.t 17), (some (16, true)), false⟩,
  ⟨some 19, .bin .leq (.t 18) (.v (.int .i64 4)), (some (16, true)), false⟩,
  ⟨some 20, .pick (.t 16) (.t 19) (.v (.bool false)), none, false⟩,
  ⟨some 2, .mv (.t 20), none, false⟩])
def s_class_May : SFn := ⟨1, [.t 2], (.seq (.region false [⟨some 1, .box true 2 (.t 0), none, false⟩,
  ⟨some 2, .mv (.v (.bool false)), none, false⟩]) (.seq (.kp [2] s_class_May_p0) .ret))⟩
def s_class_Foot_p0 : SCode := (.region false [⟨some 2, .box true 2 (.t 0), none, false⟩,
  ⟨some 3, .box true 2 (.t 1), none, false⟩,
  ⟨some 4, .alloc true [(.int .i64 0), (.int .i64 0), (.int .i64 0), (.int .i64 0)], none, false⟩])
def s_class_Foot_p1 : SCode := (.region false [⟨some 6, .load (some 2) (.t 3), none, false⟩,
  ⟨some 7, .faddr 1 (.t 2), none, false⟩,
  ⟨some 8, .load none (.t 7), none, false⟩,
  ⟨some 9, .faddr 1 (.t 2), none, false⟩,
  ⟨some 10, .load none (.t 9), none, false⟩,
  ⟨some 11, .build [(.int .i64 0), (.int .i64 0), (.int .i64 0), (.int .i64 0)] [(0, 2, (.t 6)), (2, 1, (.t 8)), (3, 1, (.t 10))], none, false⟩,
  ⟨some 5, .alloc true [(.int .i64 0), (.int .i64 0), (.int .i64 0), (.int .i64 0)], none, false⟩,
  ⟨none, .store 4 [] (.t 5) (.t 11), none, false⟩])
def s_class_Foot_p2 : SCode := (.region false [⟨some 12, .load (some 2) (.t 2), none, false⟩,
  ⟨some 13, .call f_class_May [(.t 12)], none, false⟩,
  ⟨some 14, .un .not (.t 13), none, false⟩,
  ⟨some 15, .mv (.t 14), none, false⟩,
  ⟨some 16, .load (some 4) (.t 5), (some (15, false)), false⟩,
  ⟨some 17, .call f_cell_May [(.t 16)], (some (15, false)), false⟩,
  ⟨some 18, .un .not (.t 17), (some (15, false)), false⟩,
  ⟨some 19, .pick (.t 15) (.v (.bool true)) (.t 18), none, false⟩])
def s_class_Foot_p3 : SCode := (.cond (.t 19) (.seq (.region false [⟨some 20, .build [(.int .i64 0), (.int .i64 0), (.int .i64 0), (.int .i64 0)] [], none, false⟩,
  ⟨none, .store 4 [] (.t 4) (.t 20), none, false⟩]) .ret) .skip)
def s_class_Foot_p4 : SCode := (.seq (.kp [4, 5] (.seq (.kp [4, 5, 19] s_class_Foot_p2) s_class_Foot_p3)) (.seq (.region false [⟨some 21, .load (some 4) (.t 5), none, false⟩,
  ⟨none, .store 4 [] (.t 4) (.t 21), none, false⟩]) .ret))
def s_class_Foot : SFn := ⟨2, [.cell 4 (some 4)], (.seq s_class_Foot_p0 (.seq (.kp [2, 4, 5] s_class_Foot_p1) s_class_Foot_p4))⟩
def s_class_On_p0 : SCode := (.region false [⟨some 6, .build [(.int .i64 0), (.int .i64 0), (.int .i64 0), (.int .i64 0)] [(0, 1, (.v (.int .i64 3))), (1, 1, (.v (.int .i64 1))), (2, 1, (.v (.int .i64 4))), (3, 1, (.v (.int .i64 5)))], none, false⟩,
  ⟨some 5, .alloc true [(.int .i64 0), (.int .i64 0), (.int .i64 0), (.int .i64 0)], none, false⟩,
  ⟨none, .store 4 [] (.t 5) (.t 6), none, false⟩])
def s_class_On_p1 : SCode := (.region false [⟨some 7, .mv (.t 0), none, false⟩,
  ⟨some 8, .bin .geq (.t 7) (.v (.int .i64 0)), none, false⟩,
  ⟨some 9, .mv (.t 8), none, false⟩,
  ⟨some 10, .mv (.t 0), (some (9, true)), false⟩,
  ⟨some 11, .bin .lss (.t 10) (.v (.int .i64 4)), (some (9, true)), false⟩,
  ⟨some 12, .pick (.t 9) (.t 11) (.v (.bool false)), none, false⟩,
  ⟨some 13, .mv (.t 12), none, false⟩,
  ⟨some 14, .mv (.t 1), (some (13, true)), false⟩,
  ⟨some 15, .bin .geq (.t 14) (.v (.int .i64 0)), (some (13, true)), false⟩,
  ⟨some 16, .pick (.t 13) (.t 15) (.v (.bool false)), none, false⟩,
  ⟨some 17, .mv (.t 16), none, false⟩,
  ⟨some 18, .mv (.t 1), (some (17, true)), false⟩,
  ⟨some 19, .bin .lss (.t 18) (.v (.int .i64 4)), (some (17, true)), false⟩,
  ⟨some 20, .pick (.t 17) (.t 19) (.v (.bool false)), none, false⟩,
  ⟨some 21, .mv (.t 20), none, false⟩,
  ⟨some 22, .mv (.t 0), (some (21, true)), false⟩,
  ⟨some 23, .iaddrA 4 1 (.t 5) (.t 22), (some (21, true)), false⟩,
  ⟨some 24, .load none (.t 23), (some (21, true)), false⟩,
  ⟨some 25, .mv (.t 1), (some (21, true)), false⟩,
  ⟨some 26, .bin .shr (.t 24) (.t 25), (some (21, true)), false⟩,
  ⟨some 27, .bin .and (.t 26) (.v (.int .i64 1)), (some (21, true)), false⟩,
  ⟨some 28, .bin .eql (.t 27) (.v (.int .i64 1)), (some (21, true)), false⟩,
  ⟨some 29, .pick (.t 21) (.t 28) (.v (.bool false)), none, false⟩,
  ⟨some 4, .mv (.t 29), none, false⟩])
def s_class_On : SFn := ⟨2, [.t 4], (.seq (.region false [⟨some 4, .mv (.v (.bool false)), none, false⟩]) (.seq s_class_On_p0 (.seq (.kp [4] s_class_On_p1) .ret)))⟩
def s_grid_World_is_p0 : SCode := (.region false [⟨some 3, .mv (.t 0), none, false⟩,
  ⟨some 4, .eq true false [.ptr] (.t 3) (.v .nilp), none, false⟩,
  ⟨some 5, .mv (.t 4), none, false⟩,
  ⟨some 6, .mv (.t 0), (some (5, true)), false⟩,
  ⟨some 7, .nilck (.t 6), (some (5, true)), false⟩,
  ⟨some 8, .faddr 3 (.t 7), (some (5, true)), false⟩,
  ⟨some 9, .load none (.t 8), (some (5, true)), false⟩,
  ⟨some 10, .eq true false [.map] (.t 9) (.v .nilm), (some (5, true)), false⟩,
  ⟨some 11, .pick (.t 5) (.t 10) (.v (.bool false)), none, false⟩,
  ⟨some 2, .mv (.t 11), none, false⟩])
def s_grid_World_is : SFn := ⟨1, [.t 2], (.seq (.region false [⟨some 2, .mv (.v (.bool false)), none, false⟩]) (.seq (.kp [2] s_grid_World_is_p0) .ret))⟩
def s_grid_World_All_p0 : SCode := (.cond (.t 5) (.seq (.region false [⟨some 6, .build [(.int .i64 0), (.int .i64 0), (.int .i64 0), (.int .i64 0)] [], none, false⟩,
  ⟨none, .store 4 [] (.t 2) (.t 6), none, false⟩]) .ret) .skip)
def s_grid_World_All_p1 : SCode := (.region true [⟨some 7, .mv (.t 0), none, true⟩,
  ⟨some 8, .nilck (.t 7), none, true⟩,
  ⟨some 9, .faddr 0 (.t 8), none, true⟩,
  ⟨some 10, .load none (.t 9), none, true⟩,
  ⟨some 11, .mv (.t 0), none, true⟩,
  ⟨some 12, .nilck (.t 11), none, true⟩,
  ⟨some 13, .faddr 1 (.t 12), none, true⟩,
  ⟨some 14, .load none (.t 13), none, true⟩,
  ⟨some 15, .build [(.int .i64 0), (.int .i64 0), (.int .i64 0), (.int .i64 0)] [(2, 1, (.t 10)), (3, 1, (.t 14))], none, false⟩,
  ⟨none, .store 4 [] (.t 2) (.t 15), none, false⟩])
def s_grid_World_All_p2 : SCode := (.seq (.kp [0, 2] (.seq (.region false [⟨some 3, .mv (.t 0), none, false⟩,
  ⟨some 4, .call f_grid_World_is [(.t 3)], none, false⟩,
  ⟨some 5, .un .not (.t 4), none, false⟩]) s_grid_World_All_p0)) (.seq (.kp [2] s_grid_World_All_p1) .ret))
def s_grid_World_All : SFn := ⟨1, [.cell 2 (some 4)], (.seq (.region false [⟨some 2, .alloc true [(.int .i64 0), (.int .i64 0), (.int .i64 0), (.int .i64 0)], none, false⟩]) s_grid_World_All_p2)⟩
def s_grid_World_At_p0 : SCode := (.seq (.region false [⟨some 8, .mv (.t 0), none, false⟩,
  ⟨some 9, .call f_grid_World_is [(.t 8)], none, false⟩,
  ⟨some 10, .un .not (.t 9), none, false⟩]) (.cond (.t 10) (.seq (.region false [⟨some 4, .mv (.v (.int .i64 0)), none, false⟩,
  ⟨some 5, .mv (.v (.bool false)), none, false⟩]) .ret) .skip))
def s_grid_World_At_p1 : SCode := (.region true [⟨some 12, .mv (.t 0), none, true⟩,
  ⟨some 13, .nilck (.t 12), none, true⟩,
  ⟨some 14, .faddr 4 (.t 13), none, true⟩,
  ⟨some 15, .load none (.t 14), none, true⟩,
  ⟨some 16, .load (some 2) (.t 3), none, true⟩,
  ⟨some 17, .lookup true [.int, .int] (.int .i64 0) true (.t 15) (.t 16), none, false⟩,
  ⟨some 11, .mv (.t 17), none, false⟩,
  ⟨some 18, .ext (.t 11) 0, none, false⟩,
  ⟨some 19, .ext (.t 11) 1, none, false⟩,
  ⟨some 6, .mv (.t 18), none, false⟩,
  ⟨some 7, .mv (.t 19), none, false⟩])
def s_grid_World_At_p2 : SCode := (.seq (.kp [6, 7] s_grid_World_At_p1) (.seq (.region false [⟨some 20, .mv (.t 6), none, false⟩,
  ⟨some 21, .mv (.t 7), none, false⟩,
  ⟨some 4, .mv (.t 20), none, false⟩,
  ⟨some 5, .mv (.t 21), none, false⟩]) .ret))
def s_grid_World_At_p3 : SCode := (.seq (.region false [⟨some 3, .box true 2 (.t 1), none, false⟩,
  ⟨some 4, .mv (.v (.int .i64 0)), none, false⟩,
  ⟨some 5, .mv (.v (.bool false)), none, false⟩]) (.seq (.kp [0, 3] s_grid_World_At_p0) s_grid_World_At_p2))
def s_grid_World_At : SFn := ⟨2, [.t 4, .t 5], s_grid_World_At_p3⟩
def s_grid_World_Terrain_p0 : SCode := (.region true [⟨some 6, .mv (.t 0), none, true⟩,
  ⟨some 8, .load (some 2) (.t 3), none, true⟩,
  ⟨some 7, .call f_grid_World_All [(.t 6)], none, true⟩,
  ⟨some 9, .call f_cell_Has [(.t 7), (.t 8)], none, false⟩,
  ⟨some 10, .un .not (.t 9), none, false⟩])
def s_grid_World_Terrain_p1 : SCode := (.kp [0, 3] (.seq (.kp [0, 3, 10] s_grid_World_Terrain_p0) (.cond (.t 10) (.seq (.region false [⟨some 4, .mv (.v (.int .i64 0)), none, false⟩,
  ⟨some 5, .mv (.v (.bool false)), none, false⟩]) .ret) .skip)))
def s_grid_World_Terrain_p2 : SCode := (.region true [⟨some 11, .mv (.t 0), none, true⟩,
  ⟨some 12, .nilck (.t 11), none, true⟩,
  ⟨some 13, .faddr 2 (.t 12), none, true⟩,
  ⟨some 14, .load none (.t 13), none, true⟩,
  ⟨some 15, .faddr 1 (.t 3), none, true⟩,
  ⟨some 16, .load none (.t 15), none, true⟩,
  ⟨some 17, .mv (.t 0), none, true⟩,
  ⟨some 18, .nilck (.t 17), none, true⟩,
  ⟨some 19, .faddr 0 (.t 18), none, true⟩,
  ⟨some 20, .load none (.t 19), none, true⟩,
  ⟨some 21, .bin .mul (.t 16) (.t 20), none, true⟩,
  ⟨some 22, .faddr 0 (.t 3), none, true⟩,
  ⟨some 23, .load none (.t 22), none, true⟩,
  ⟨some 24, .bin .add (.t 21) (.t 23), none, true⟩,
  ⟨some 25, .iaddr 1 (.t 14) (.t 24), none, false⟩,
  ⟨some 26, .load none (.t 25), none, false⟩,
  ⟨some 27, .conv .i64 (.t 26), none, false⟩,
  ⟨some 4, .mv (.t 27), none, false⟩,
  ⟨some 5, .mv (.v (.bool true)), none, false⟩])
def s_grid_World_Terrain_p3 : SCode := (.seq (.region false [⟨some 3, .box true 2 (.t 1), none, false⟩,
  ⟨some 4, .mv (.v (.int .i64 0)), none, false⟩,
  ⟨some 5, .mv (.v (.bool false)), none, false⟩]) (.seq s_grid_World_Terrain_p1 (.seq (.kp [4, 5] s_grid_World_Terrain_p2) .ret)))
def s_grid_World_Terrain : SFn := ⟨2, [.t 4, .t 5], s_grid_World_Terrain_p3⟩
def s_class_Stands_p0 : SCode := (.region false [⟨some 3, .box true 1 (.t 0), none, false⟩,
  ⟨some 4, .box true 2 (.t 1), none, false⟩,
  ⟨some 5, .box true 2 (.t 2), none, false⟩,
  ⟨some 6, .alloc true [(.bool false)], none, false⟩])
def s_class_Stands_p1 : SCode := (.region false [⟨some 13, .load (some 2) (.t 4), none, false⟩,
  ⟨some 14, .load (some 2) (.t 5), none, false⟩,
  ⟨some 15, .call f_class_Foot [(.t 13), (.t 14)], none, false⟩,
  ⟨some 7, .alloc true [(.int .i64 0), (.int .i64 0), (.int .i64 0), (.int .i64 0)], none, false⟩,
  ⟨none, .store 4 [] (.t 7) (.t 15), none, false⟩])
def s_class_Stands_p2 : SCode := (.region true [⟨some 16, .load (some 4) (.t 7), none, true⟩,
  ⟨some 17, .load none (.t 3), none, true⟩,
  ⟨some 18, .call f_grid_World_All [(.t 17)], none, true⟩,
  ⟨some 19, .call f_cell_Within [(.t 16), (.t 18)], none, false⟩,
  ⟨some 20, .un .not (.t 19), none, false⟩])
def s_class_Stands_p3 : SCode := (.region false [⟨some 8, .alloc true [(.int .i64 0), (.int .i64 0)], none, false⟩,
  ⟨none, .store 2 [] (.t 8) (.t 23), none, false⟩])
def s_class_Stands_p4 : SCode := (.region false [⟨some 25, .load none (.t 3), none, false⟩,
  ⟨some 26, .load (some 2) (.t 8), none, false⟩,
  ⟨some 27, .call f_grid_World_Terrain [(.t 25), (.t 26)], none, false⟩,
  ⟨some 24, .mv (.t 27), none, false⟩,
  ⟨some 28, .ext (.t 24) 0, none, false⟩,
  ⟨some 29, .ext (.t 24) 1, none, false⟩,
  ⟨some 9, .mv (.t 28), none, false⟩,
  ⟨some 10, .mv (.t 29), none, false⟩])
def s_class_Stands_p5 : SCode := (.region false [⟨some 31, .load none (.t 3), none, false⟩,
  ⟨some 32, .load (some 2) (.t 8), none, false⟩,
  ⟨some 33, .call f_grid_World_At [(.t 31), (.t 32)], none, false⟩,
  ⟨some 30, .mv (.t 33), none, false⟩,
  ⟨some 34, .ext (.t 30) 0, none, false⟩,
  ⟨some 35, .ext (.t 30) 1, none, false⟩,
  ⟨some 11, .mv (.t 34), none, false⟩,
  ⟨some 12, .mv (.t 35), none, false⟩])
def s_class_Stands_p6 : SCode := (.region false [⟨some 36, .mv (.t 12), none, false⟩,
  ⟨some 37, .mv (.t 36), none, false⟩,
  ⟨some 38, .faddr 0 (.t 4), (some (37, false)), false⟩,
  ⟨some 39, .load none (.t 38), (some (37, false)), false⟩,
  ⟨some 40, .mv (.t 9), (some (37, false)), false⟩,
  ⟨some 41, .call f_class_On [(.t 39), (.t 40)], (some (37, false)), false⟩,
  ⟨some 42, .un .not (.t 41), (some (37, false)), false⟩,
  ⟨some 43, .pick (.t 37) (.v (.bool true)) (.t 42), none, false⟩])
def s_class_Stands_p7 : SCode := (.seq (.kp [3, 4, 6, 8, 9] s_class_Stands_p4) (.seq (.kp [4, 6, 9, 12] s_class_Stands_p5) (.seq (.kp [6, 43] s_class_Stands_p6) (.cond (.t 43) (.seq (.region false [⟨none, .store 1 [] (.t 6) (.v (.bool false)), none, false⟩]) .ret) .skip))))
def s_class_Stands_p8 : SCode := (.block 1 s_class_Stands_p7)
def s_class_Stands_p9 : SCode := (.seq (.kp [3, 4, 6, 22] (.region false [⟨some 21, .load (some 4) (.t 7), none, false⟩,
  ⟨some 22, .call f_cell_Cells [(.t 21)], none, false⟩])) (.block 0 (.rangef (.t 22) [23] s_class_Stands_p3 s_class_Stands_p8)))
def s_class_Stands_p10 : SCode := (.seq (.kp [3, 4, 6, 7] (.seq (.kp [3, 4, 6, 7, 20] s_class_Stands_p2) (.cond (.t 20) (.seq (.region false [⟨none, .store 1 [] (.t 6) (.v (.bool false)), none, false⟩]) .ret) .skip))) (.seq (.kp [6] s_class_Stands_p9) (.seq (.region false [⟨none, .store 1 [] (.t 6) (.v (.bool true)), none, false⟩]) .ret)))
def s_class_Stands : SFn := ⟨3, [.cell 6 none], (.seq s_class_Stands_p0 (.seq (.kp [3, 4, 6, 7] s_class_Stands_p1) s_class_Stands_p10))⟩
def s_clear_Field_tile_p0 : SCode := (.region true [⟨some 5, .mv (.t 0), none, true⟩,
  ⟨some 6, .nilck (.t 5), none, true⟩,
  ⟨some 7, .faddr 0 (.t 6), none, true⟩,
  ⟨some 8, .load none (.t 7), none, true⟩,
  ⟨some 9, .mv (.t 0), none, true⟩,
  ⟨some 10, .nilck (.t 9), none, true⟩,
  ⟨some 11, .faddr 1 (.t 10), none, true⟩,
  ⟨some 12, .load none (.t 11), none, true⟩,
  ⟨some 13, .build [(.int .i64 0), (.int .i64 0)] [(0, 1, (.t 12)), (1, 1, (.v (.int .i64 1)))], none, true⟩,
  ⟨some 14, .load (some 2) (.t 3), none, true⟩,
  ⟨some 15, .call f_class_Stands [(.t 8), (.t 13), (.t 14)], none, false⟩,
  ⟨some 4, .mv (.t 15), none, false⟩])
def s_clear_Field_tile : SFn := ⟨2, [.t 4], (.seq (.region false [⟨some 3, .box true 2 (.t 1), none, false⟩,
  ⟨some 4, .mv (.v (.bool false)), none, false⟩]) (.seq (.kp [4] s_clear_Field_tile_p0) .ret))⟩
def s_clear_Field_reckon_p0 : SCode := (.region false [⟨some 11, .faddr 0 (.t 3), none, false⟩,
  ⟨some 12, .faddr 1 (.t 11), none, false⟩,
  ⟨some 13, .load none (.t 12), none, false⟩,
  ⟨some 14, .faddr 3 (.t 3), none, false⟩,
  ⟨some 15, .load none (.t 14), none, false⟩,
  ⟨some 16, .bin .add (.t 13) (.t 15), none, false⟩,
  ⟨some 17, .bin .sub (.t 16) (.v (.int .i64 1)), none, false⟩,
  ⟨some 6, .mv (.t 17), none, false⟩])
def s_clear_Field_reckon_p1 : SCode := (.region false [⟨some 18, .mv (.t 6), none, false⟩,
  ⟨some 19, .faddr 0 (.t 3), none, false⟩,
  ⟨some 20, .faddr 1 (.t 19), none, false⟩,
  ⟨some 21, .load none (.t 20), none, false⟩,
  ⟨some 22, .bin .geq (.t 18) (.t 21), none, false⟩])
def s_clear_Field_reckon_p2 : SCode := (.region false [⟨some 25, .faddr 0 (.t 3), none, false⟩,
  ⟨some 26, .faddr 0 (.t 25), none, false⟩,
  ⟨some 27, .load none (.t 26), none, false⟩,
  ⟨some 28, .faddr 2 (.t 3), none, false⟩,
  ⟨some 29, .load none (.t 28), none, false⟩,
  ⟨some 30, .bin .add (.t 27) (.t 29), none, false⟩,
  ⟨some 31, .bin .sub (.t 30) (.v (.int .i64 1)), none, false⟩,
  ⟨some 7, .mv (.t 31), none, false⟩])
def s_clear_Field_reckon_p3 : SCode := (.region false [⟨some 32, .mv (.t 7), none, false⟩,
  ⟨some 33, .faddr 0 (.t 3), none, false⟩,
  ⟨some 34, .faddr 0 (.t 33), none, false⟩,
  ⟨some 35, .load none (.t 34), none, false⟩,
  ⟨some 36, .bin .geq (.t 32) (.t 35), none, false⟩])
def s_clear_Field_reckon_p4 : SCode := (.region false [⟨some 39, .mv (.t 7), none, false⟩,
  ⟨some 40, .mv (.t 6), none, false⟩,
  ⟨some 41, .build [(.int .i64 0), (.int .i64 0)] [(0, 1, (.t 39)), (1, 1, (.t 40))], none, false⟩,
  ⟨some 8, .alloc true [(.int .i64 0), (.int .i64 0)], none, false⟩,
  ⟨none, .store 2 [] (.t 8) (.t 41), none, false⟩])
def s_clear_Field_reckon_p5 : SCode := (.region false [⟨some 45, .mv (.t 0), none, false⟩,
  ⟨some 46, .mv (.t 7), none, false⟩,
  ⟨some 47, .bin .add (.t 46) (.v (.int .i64 1)), none, false⟩,
  ⟨some 48, .mv (.t 6), none, false⟩,
  ⟨some 49, .build [(.int .i64 0), (.int .i64 0)] [(0, 1, (.t 47)), (1, 1, (.t 48))], none, false⟩,
  ⟨some 50, .call f_clear_Field_At [(.t 45), (.t 49)], none, false⟩,
  ⟨some 51, .mv (.t 0), none, false⟩,
  ⟨some 52, .mv (.t 7), none, false⟩,
  ⟨some 53, .mv (.t 6), none, false⟩,
  ⟨some 54, .bin .add (.t 53) (.v (.int .i64 1)), none, false⟩,
  ⟨some 55, .build [(.int .i64 0), (.int .i64 0)] [(0, 1, (.t 52)), (1, 1, (.t 54))], none, false⟩,
  ⟨some 56, .call f_clear_Field_At [(.t 51), (.t 55)], none, false⟩,
  ⟨some 57, .mv (.t 0), none, false⟩,
  ⟨some 58, .mv (.t 7), none, false⟩,
  ⟨some 59, .bin .add (.t 58) (.v (.int .i64 1)), none, false⟩,
  ⟨some 60, .mv (.t 6), none, false⟩,
  ⟨some 61, .bin .add (.t 60) (.v (.int .i64 1)), none, false⟩,
  ⟨some 62, .build [(.int .i64 0), (.int .i64 0)] [(0, 1, (.t 59)), (1, 1, (.t 61))], none, false⟩,
  ⟨some 63, .call f_clear_Field_At [(.t 57), (.t 62)], none, false⟩,
  ⟨some 64, .mxmn false [(.t 50), (.t 56), (.t 63), (.v (.int .i64 3))], none, false⟩,
  ⟨some 65, .bin .add (.v (.int .i64 1)) (.t 64), none, false⟩,
  ⟨some 9, .mv (.t 65), none, false⟩])
def s_clear_Field_reckon_p6 : SCode := (.seq (.region false [⟨some 42, .mv (.t 0), none, false⟩,
  ⟨some 43, .load (some 2) (.t 8), none, false⟩,
  ⟨some 44, .call f_clear_Field_tile [(.t 42), (.t 43)], none, false⟩]) (.cond (.t 44) s_clear_Field_reckon_p5 .skip))
def s_clear_Field_reckon_p7 : SCode := (.region false [⟨some 66, .mv (.t 6), none, false⟩,
  ⟨some 67, .mv (.t 0), none, false⟩,
  ⟨some 68, .nilck (.t 67), none, false⟩,
  ⟨some 69, .faddr 2 (.t 68), none, false⟩,
  ⟨some 70, .faddr 2 (.t 69), none, false⟩,
  ⟨some 71, .load none (.t 70), none, false⟩,
  ⟨some 72, .bin .mul (.t 66) (.t 71), none, false⟩,
  ⟨some 73, .mv (.t 7), none, false⟩,
  ⟨some 74, .bin .add (.t 72) (.t 73), none, false⟩,
  ⟨some 10, .mv (.t 74), none, false⟩])
def s_clear_Field_reckon_p8 : SCode := (.region false [⟨some 75, .mv (.t 0), none, false⟩,
  ⟨some 76, .nilck (.t 75), none, false⟩,
  ⟨some 77, .faddr 6 (.t 76), none, false⟩,
  ⟨some 78, .load none (.t 77), none, false⟩,
  ⟨some 79, .mv (.t 10), none, false⟩,
  ⟨some 80, .iaddr 1 (.t 78) (.t 79), none, false⟩,
  ⟨some 81, .load none (.t 80), none, false⟩,
  ⟨some 82, .mv (.t 9), none, false⟩,
  ⟨some 83, .bin .neq (.t 81) (.t 82), none, false⟩])
def s_clear_Field_reckon_p9 : SCode := (.region false [⟨some 84, .mv (.t 0), none, false⟩,
  ⟨some 85, .nilck (.t 84), none, false⟩,
  ⟨some 86, .faddr 6 (.t 85), none, false⟩,
  ⟨some 87, .load none (.t 86), none, false⟩,
  ⟨some 88, .mv (.t 10), none, false⟩,
  ⟨some 89, .mv (.t 9), none, false⟩,
  ⟨some 90, .iaddr 1 (.t 87) (.t 88), none, false⟩,
  ⟨none, .store 1 [] (.t 90) (.t 89), none, false⟩])
def s_clear_Field_reckon_p10 : SCode := (.seq (.kp [0, 3, 5, 6, 7] s_clear_Field_reckon_p9) (.region false [⟨some 91, .mv (.t 5), none, false⟩,
  ⟨some 92, .bin .add (.t 91) (.v (.int .i64 1)), none, false⟩,
  ⟨some 5, .mv (.t 92), none, false⟩]))
def s_clear_Field_reckon_p11 : SCode := (.seq (.region false [⟨some 9, .mv (.v (.int .i64 0)), none, false⟩]) (.seq (.kp [0, 3, 5, 6, 7, 9] s_clear_Field_reckon_p6) (.seq (.kp [0, 3, 5, 6, 7, 9, 10] s_clear_Field_reckon_p7) (.seq (.kp [0, 3, 5, 6, 7, 9, 10, 83] s_clear_Field_reckon_p8) (.cond (.t 83) s_clear_Field_reckon_p10 .skip)))))
def s_clear_Field_reckon_p12 : SCode := (.seq (.kp [0, 3, 5, 6, 7] (.block 3 (.seq (.kp [0, 3, 5, 6, 7, 8] s_clear_Field_reckon_p4) s_clear_Field_reckon_p11))) (.region false [⟨some 37, .mv (.t 7), none, false⟩,
  ⟨some 38, .bin .sub (.t 37) (.v (.int .i64 1)), none, false⟩,
  ⟨some 7, .mv (.t 38), none, false⟩]))
def s_clear_Field_reckon_p13 : SCode := (.seq (.kp [0, 3, 5, 6, 7] (.seq (.kp [0, 3, 5, 6, 7, 36] s_clear_Field_reckon_p3) (.cond (.t 36) .skip (.exit 2)))) s_clear_Field_reckon_p12)
def s_clear_Field_reckon_p14 : SCode := (.seq (.kp [0, 3, 5, 6] (.block 1 (.seq (.kp [0, 3, 5, 6, 7] s_clear_Field_reckon_p2) (.block 2 (.loop (some [0, 3, 5, 6, 7]) s_clear_Field_reckon_p13))))) (.region false [⟨some 23, .mv (.t 6), none, false⟩,
  ⟨some 24, .bin .sub (.t 23) (.v (.int .i64 1)), none, false⟩,
  ⟨some 6, .mv (.t 24), none, false⟩]))
def s_clear_Field_reckon_p15 : SCode := (.seq (.kp [0, 3, 5, 6] (.seq (.kp [0, 3, 5, 6, 22] s_clear_Field_reckon_p1) (.cond (.t 22) .skip (.exit 0)))) s_clear_Field_reckon_p14)
def s_clear_Field_reckon_p16 : SCode := (.seq (.kp [5] (.seq (.kp [0, 3, 5, 6] s_clear_Field_reckon_p0) (.block 0 (.loop (some [0, 3, 5, 6]) s_clear_Field_reckon_p15)))) (.seq (.region false [⟨some 93, .mv (.t 5), none, false⟩,
  ⟨some 4, .mv (.t 93), none, false⟩]) .ret))
def s_clear_Field_reckon_p17 : SCode := (.seq (.region false [⟨some 3, .box true 4 (.t 1), none, false⟩,
  ⟨some 4, .mv (.v (.int .i64 0)), none, false⟩]) (.seq (.region false [⟨some 5, .mv (.v (.int .i64 0)), none, false⟩]) s_clear_Field_reckon_p16))
def s_clear_Field_reckon : SFn := ⟨2, [.t 4], s_clear_Field_reckon_p17⟩
def s_slices_Clone_api_Rect_api_Rect_p0 : SCode := (.seq (.region false [⟨some 3, .mv (.t 0), none, false⟩,
  ⟨some 4, .eq false false [.slice] (.t 3) (.v .nils), none, false⟩]) (.cond (.t 4) (.seq (.region false [⟨some 2, .mv (.v .nils), none, false⟩]) .ret) .skip))
def s_slices_Clone_api_Rect_api_Rect_p1 : SCode := (.region false [⟨some 5, .bslice [] 0 4 [], none, false⟩,
  ⟨some 6, .mv (.t 0), none, false⟩,
  ⟨some 7, .append 4 32 [(.int .i64 0), (.int .i64 0), (.int .i64 0), (.int .i64 0)] [] (.t 5) (.t 6), none, false⟩,
  ⟨some 2, .mv (.t 7), none, false⟩])
def s_slices_Clone_api_Rect_api_Rect : SFn := ⟨1, [.t 2], (.seq (.region false [⟨some 2, .mv (.v .nils), none, false⟩]) (.seq (.kp [0] s_slices_Clone_api_Rect_api_Rect_p0) (.seq s_slices_Clone_api_Rect_api_Rect_p1 .ret)))⟩
def s_grid_World_Dirty_p0 : SCode := (.region false [⟨some 5, .mv (.t 0), none, false⟩,
  ⟨some 6, .call f_grid_World_is [(.t 5)], none, false⟩,
  ⟨some 7, .un .not (.t 6), none, false⟩,
  ⟨some 8, .mv (.t 7), none, false⟩,
  ⟨some 9, .mv (.t 1), (some (8, false)), false⟩,
  ⟨some 10, .bin .lss (.t 9) (.v (.int .i64 0)), (some (8, false)), false⟩,
  ⟨some 11, .pick (.t 8) (.v (.bool true)) (.t 10), none, false⟩,
  ⟨some 12, .mv (.t 11), none, false⟩,
  ⟨some 13, .mv (.t 1), (some (12, false)), false⟩,
  ⟨some 14, .mv (.t 0), (some (12, false)), false⟩,
  ⟨some 15, .nilck (.t 14), (some (12, false)), false⟩,
  ⟨some 16, .faddr 5 (.t 15), (some (12, false)), false⟩,
  ⟨some 17, .load none (.t 16), (some (12, false)), false⟩,
  ⟨some 18, .len (.t 17), (some (12, false)), false⟩,
  ⟨some 19, .bin .geq (.t 13) (.t 18), (some (12, false)), false⟩,
  ⟨some 20, .pick (.t 12) (.v (.bool true)) (.t 19), none, false⟩])
def s_grid_World_Dirty_p1 : SCode := (.region false [⟨some 21, .mv (.t 0), none, false⟩,
  ⟨some 22, .nilck (.t 21), none, false⟩,
  ⟨some 23, .faddr 5 (.t 22), none, false⟩,
  ⟨some 24, .load none (.t 23), none, false⟩,
  ⟨some 25, .mv (.t 1), none, false⟩,
  ⟨some 26, .slice 4 (.t 24) (some (.t 25)) none none, none, false⟩,
  ⟨some 27, .call f_slices_Clone_api_Rect_api_Rect [(.t 26)], none, false⟩,
  ⟨some 4, .mv (.t 27), none, false⟩])
def s_grid_World_Dirty_p2 : SCode := (.seq (.region false [⟨some 4, .mv (.v .nils), none, false⟩]) (.seq (.kp [0, 1] (.seq (.kp [0, 1, 20] s_grid_World_Dirty_p0) (.cond (.t 20) (.seq (.region false [⟨some 4, .mv (.v .nils), none, false⟩]) .ret) .skip))) (.seq (.kp [4] s_grid_World_Dirty_p1) .ret)))
def s_grid_World_Dirty : SFn := ⟨2, [.t 4], s_grid_World_Dirty_p2⟩
def s_grid_World_Epoch_p0 : SCode := (.seq (.region false [⟨some 3, .mv (.t 0), none, false⟩,
  ⟨some 4, .call f_grid_World_is [(.t 3)], none, false⟩,
  ⟨some 5, .un .not (.t 4), none, false⟩]) (.cond (.t 5) (.seq (.region false [⟨some 2, .mv (.v (.int .i64 0)), none, false⟩]) .ret) .skip))
def s_grid_World_Epoch_p1 : SCode := (.region false [⟨some 6, .mv (.t 0), none, false⟩,
  ⟨some 7, .nilck (.t 6), none, false⟩,
  ⟨some 8, .faddr 5 (.t 7), none, false⟩,
  ⟨some 9, .load none (.t 8), none, false⟩,
  ⟨some 10, .len (.t 9), none, false⟩,
  ⟨some 2, .mv (.t 10), none, false⟩])
def s_grid_World_Epoch : SFn := ⟨1, [.t 2], (.seq (.region false [⟨some 2, .mv (.v (.int .i64 0)), none, false⟩]) (.seq (.kp [0] s_grid_World_Epoch_p0) (.seq (.kp [2] s_grid_World_Epoch_p1) .ret)))⟩
def s_clear_Field_Update_p0 : SCode := (.region false [⟨some 16, .load none (.t 1), none, false⟩,
  ⟨some 17, .eq false false [.ptr] (.t 16) (.v .nilp), none, false⟩,
  ⟨some 18, .mv (.t 17), none, false⟩,
  ⟨some 19, .load none (.t 1), (some (18, false)), false⟩,
  ⟨some 20, .nilck (.t 19), (some (18, false)), false⟩,
  ⟨some 21, .faddr 0 (.t 20), (some (18, false)), false⟩,
  ⟨some 22, .load none (.t 21), (some (18, false)), false⟩,
  ⟨some 23, .eq false false [.ptr] (.t 22) (.v .nilp), (some (18, false)), false⟩,
  ⟨some 24, .pick (.t 18) (.v (.bool true)) (.t 23), none, false⟩])
def s_clear_Field_Update_p1 : SCode := (.kp [1] (.seq (.kp [1, 24] s_clear_Field_Update_p0) (.cond (.t 24) (.seq (.region false [⟨some 2, .mv (.v (.int .i64 0)), none, false⟩,
  ⟨some 3, .mv (.v (.int .i64 1)), none, false⟩]) .ret) .skip)))
def s_clear_Field_Update_p2 : SCode := (.region true [⟨some 26, .load none (.t 1), none, true⟩,
  ⟨some 27, .nilck (.t 26), none, true⟩,
  ⟨some 28, .faddr 0 (.t 27), none, true⟩,
  ⟨some 29, .load none (.t 28), none, true⟩,
  ⟨some 30, .load none (.t 1), none, true⟩,
  ⟨some 31, .nilck (.t 30), none, true⟩,
  ⟨some 32, .faddr 7 (.t 31), none, true⟩,
  ⟨some 33, .load none (.t 32), none, true⟩,
  ⟨some 36, .mv (.v (.int .i64 0)), none, true⟩,
  ⟨some 34, .call f_grid_World_Dirty [(.t 29), (.t 33)], none, false⟩,
  ⟨some 35, .len (.t 34), none, false⟩])
def s_clear_Field_Update_p3 : SCode := (.region false [⟨some 38, .iaddr 4 (.t 34) (.t 36), none, false⟩,
  ⟨some 39, .load (some 4) (.t 38), none, false⟩,
  ⟨some 6, .alloc true [(.int .i64 0), (.int .i64 0), (.int .i64 0), (.int .i64 0)], none, false⟩,
  ⟨none, .store 4 [] (.t 6) (.t 39), none, false⟩])
def s_clear_Field_Update_p4 : SCode := (.region true [⟨some 40, .faddr 0 (.t 6), none, true⟩,
  ⟨some 41, .faddr 0 (.t 40), none, true⟩,
  ⟨some 42, .load none (.t 41), none, true⟩,
  ⟨some 43, .bin .sub (.t 42) (.v (.int .i64 4)), none, true⟩,
  ⟨some 44, .bin .add (.t 43) (.v (.int .i64 1)), none, true⟩,
  ⟨some 45, .mxmn true [(.v (.int .i64 0)), (.t 44)], none, true⟩,
  ⟨some 46, .faddr 0 (.t 6), none, true⟩,
  ⟨some 47, .faddr 1 (.t 46), none, true⟩,
  ⟨some 48, .load none (.t 47), none, true⟩,
  ⟨some 49, .bin .sub (.t 48) (.v (.int .i64 4)), none, true⟩,
  ⟨some 50, .bin .add (.t 49) (.v (.int .i64 1)), none, true⟩,
  ⟨some 51, .mxmn true [(.v (.int .i64 0)), (.t 50)], none, true⟩,
  ⟨some 7, .mv (.t 45), none, true⟩,
  ⟨some 8, .mv (.t 51), none, false⟩])
def s_clear_Field_Update_p5 : SCode := (.region false [⟨some 52, .mv (.t 7), none, false⟩,
  ⟨some 53, .mv (.t 8), none, false⟩,
  ⟨some 54, .build [(.int .i64 0), (.int .i64 0)] [(0, 1, (.t 52)), (1, 1, (.t 53))], none, false⟩,
  ⟨some 55, .faddr 0 (.t 6), none, false⟩,
  ⟨some 56, .faddr 0 (.t 55), none, false⟩,
  ⟨some 57, .load none (.t 56), none, false⟩,
  ⟨some 58, .faddr 2 (.t 6), none, false⟩,
  ⟨some 59, .load none (.t 58), none, false⟩,
  ⟨some 60, .bin .add (.t 57) (.t 59), none, false⟩,
  ⟨some 61, .mv (.t 7), none, false⟩,
  ⟨some 62, .bin .sub (.t 60) (.t 61), none, false⟩,
  ⟨some 63, .faddr 0 (.t 6), none, false⟩,
  ⟨some 64, .faddr 1 (.t 63), none, false⟩,
  ⟨some 65, .load none (.t 64), none, false⟩,
  ⟨some 66, .faddr 3 (.t 6), none, false⟩,
  ⟨some 67, .load none (.t 66), none, false⟩,
  ⟨some 68, .bin .add (.t 65) (.t 67), none, false⟩,
  ⟨some 69, .mv (.t 8), none, false⟩,
  ⟨some 70, .bin .sub (.t 68) (.t 69), none, false⟩,
  ⟨some 71, .build [(.int .i64 0), (.int .i64 0), (.int .i64 0), (.int .i64 0)] [(0, 2, (.t 54)), (2, 1, (.t 62)), (3, 1, (.t 70))], none, false⟩,
  ⟨some 9, .alloc true [(.int .i64 0), (.int .i64 0), (.int .i64 0), (.int .i64 0)], none, false⟩,
  ⟨none, .store 4 [] (.t 9) (.t 71), none, false⟩])
def s_clear_Field_Update_p6 : SCode := (.region false [⟨some 10, .alloc true [(.int .i64 0), (.int .i64 0)], none, false⟩,
  ⟨none, .store 2 [] (.t 10) (.t 74), none, false⟩])
def s_clear_Field_Update_p7 : SCode := (.region false [⟨some 76, .load none (.t 4), none, false⟩,
  ⟨some 77, .load (some 2) (.t 10), none, false⟩,
  ⟨some 78, .lookup true [.int, .int] (.int .i64 0) true (.t 76) (.t 77), none, false⟩,
  ⟨some 75, .mv (.t 78), none, false⟩,
  ⟨some 79, .ext (.t 75) 0, none, false⟩,
  ⟨some 80, .ext (.t 75) 1, none, false⟩,
  ⟨some 11, .mv (.t 79), none, false⟩,
  ⟨some 12, .mv (.t 80), none, false⟩])
def s_clear_Field_Update_p8 : SCode := (.region true [⟨some 83, .load none (.t 4), none, true⟩,
  ⟨some 84, .load (some 2) (.t 10), none, true⟩,
  ⟨some 85, .load none (.t 1), none, true⟩,
  ⟨some 86, .load (some 2) (.t 10), none, true⟩,
  ⟨some 87, .call f_clear_Field_At [(.t 85), (.t 86)], none, true⟩,
  ⟨none, .mapset true [.int, .int] (.t 83) (.t 84) (.t 87), none, false⟩])
def s_clear_Field_Update_p9 : SCode := (.seq (.kp [1, 4, 9, 10, 12, 34, 35, 36] s_clear_Field_Update_p7) (.seq (.region false [⟨some 81, .mv (.t 12), none, false⟩,
  ⟨some 82, .un .not (.t 81), none, false⟩]) (.cond (.t 82) s_clear_Field_Update_p8 .skip)))
def s_clear_Field_Update_p10 : SCode := (.block 3 s_clear_Field_Update_p9)
def s_clear_Field_Update_p11 : SCode := (.seq (.kp [1, 4, 9, 34, 35, 36, 73] (.region false [⟨some 72, .load (some 4) (.t 9), none, false⟩,
  ⟨some 73, .call f_cell_Cells [(.t 72)], none, false⟩])) (.block 2 (.rangef (.t 73) [74] s_clear_Field_Update_p6 s_clear_Field_Update_p10)))
def s_clear_Field_Update_p12 : SCode := (.seq (.kp [1, 4, 9, 34, 35, 36] s_clear_Field_Update_p11) (.region false [⟨some 88, .load none (.t 1), none, false⟩,
  ⟨some 89, .load (some 4) (.t 9), none, false⟩,
  ⟨some 90, .call f_clear_Field_reckon [(.t 88), (.t 89)], none, false⟩]))
def s_clear_Field_Update_p13 : SCode := (.seq (.kp [1, 4, 34, 35, 36] (.block 1 (.seq s_clear_Field_Update_p3 (.seq (.kp [1, 4, 6, 7, 8, 34, 35, 36] s_clear_Field_Update_p4) (.seq (.kp [1, 4, 9, 34, 35, 36] s_clear_Field_Update_p5) s_clear_Field_Update_p12))))) (.region false [⟨some 91, .bin .add (.t 36) (.v (.int .i64 1)), none, false⟩,
  ⟨some 36, .mv (.t 91), none, false⟩]))
def s_clear_Field_Update_p14 : SCode := (.seq (.region false [⟨some 37, .bin .lss (.t 36) (.t 35), none, false⟩]) (.seq (.kp [1, 4, 34, 35, 36] (.cond (.t 37) .skip (.exit 0))) s_clear_Field_Update_p13))
def s_clear_Field_Update_p15 : SCode := (.region true [⟨some 92, .load none (.t 1), none, true⟩,
  ⟨some 93, .load none (.t 1), none, true⟩,
  ⟨some 94, .nilck (.t 93), none, true⟩,
  ⟨some 95, .faddr 0 (.t 94), none, true⟩,
  ⟨some 96, .load none (.t 95), none, true⟩,
  ⟨some 97, .call f_grid_World_Epoch [(.t 96)], none, true⟩,
  ⟨some 98, .nilck (.t 92), none, false⟩,
  ⟨some 99, .faddr 7 (.t 98), none, false⟩,
  ⟨none, .store 1 [] (.t 99) (.t 97), none, false⟩])
def s_clear_Field_Update_p16 : SCode := (.region false [⟨some 107, .load none (.t 1), none, false⟩,
  ⟨some 108, .load (some 2) (.t 14), none, false⟩,
  ⟨some 109, .call f_clear_Field_At [(.t 107), (.t 108)], none, false⟩,
  ⟨some 110, .mv (.t 15), none, false⟩,
  ⟨some 111, .bin .neq (.t 109) (.t 110), none, false⟩])
def s_clear_Field_Update_p17 : SCode := (.cond (.t 111) (.region false [⟨some 112, .mv (.t 13), none, false⟩,
  ⟨some 113, .bin .add (.t 112) (.v (.int .i64 1)), none, false⟩,
  ⟨some 13, .mv (.t 113), none, false⟩]) .skip)
def s_clear_Field_Update_p18 : SCode := (.seq (.kp [1, 13, 101, 111] s_clear_Field_Update_p16) s_clear_Field_Update_p17)
def s_clear_Field_Update_p19 : SCode := (.rangem (.t 100) 101 102 103 4 5 104 [1, 13, 101] [⟨some 100, .load none (.t 4), none, false⟩] [⟨some 105, .ext (.t 104) 0, none, false⟩,
  ⟨some 106, .ext (.t 104) 1, none, false⟩,
  ⟨some 14, .alloc true [(.int .i64 0), (.int .i64 0)], none, false⟩,
  ⟨none, .store 2 [] (.t 14) (.t 105), none, false⟩,
  ⟨some 15, .mv (.t 106), none, false⟩] s_clear_Field_Update_p18)
def s_clear_Field_Update_p20 : SCode := (.seq (.kp [1, 4, 13] (.region false [⟨some 13, .mv (.v (.int .i64 0)), none, false⟩])) (.seq (.kp [13] s_clear_Field_Update_p19) (.seq (.region false [⟨some 114, .mv (.t 13), none, false⟩,
  ⟨some 2, .mv (.t 114), none, false⟩,
  ⟨some 3, .mv (.v (.int .i64 0)), none, false⟩]) .ret)))
def s_clear_Field_Update_p21 : SCode := (.seq (.region false [⟨some 25, .mkmap, none, false⟩,
  ⟨some 4, .alloc true [.nilm], none, false⟩,
  ⟨none, .store 1 [] (.t 4) (.t 25), none, false⟩]) (.seq (.kp [1, 4] (.seq (.kp [1, 4, 34, 35, 36] s_clear_Field_Update_p2) (.block 0 (.loop (some [1, 4, 34, 35, 36]) s_clear_Field_Update_p14)))) (.seq (.kp [1, 4] s_clear_Field_Update_p15) s_clear_Field_Update_p20)))
def s_clear_Field_Update_p22 : SCode := (.seq (.region false [⟨some 1, .box true 1 (.t 0), none, false⟩,
  ⟨some 2, .mv (.v (.int .i64 0)), none, false⟩,
  ⟨some 3, .mv (.v (.int .i64 0)), none, false⟩]) (.seq s_clear_Field_Update_p1 s_clear_Field_Update_p21))
def s_clear_Field_Update : SFn := ⟨1, [.t 2, .t 3], s_clear_Field_Update_p22⟩
def s_clear_New_p0 : SCode := (.region false [⟨some 8, .mv (.t 0), none, false⟩,
  ⟨some 9, .call f_grid_World_All [(.t 8)], none, false⟩,
  ⟨some 6, .alloc true [(.int .i64 0), (.int .i64 0), (.int .i64 0), (.int .i64 0)], none, false⟩,
  ⟨none, .store 4 [] (.t 6) (.t 9), none, false⟩])
def s_clear_New_p1 : SCode := (.region false [⟨some 10, .load (some 4) (.t 6), none, false⟩,
  ⟨some 11, .call f_cell_May [(.t 10)], none, false⟩,
  ⟨some 12, .un .not (.t 11), none, false⟩,
  ⟨some 13, .mv (.t 12), none, false⟩,
  ⟨some 14, .mv (.t 1), (some (13, false)), false⟩,
  ⟨some 15, .bin .lss (.t 14) (.v (.int .i64 0)), (some (13, false)), false⟩,
  ⟨some 16, .pick (.t 13) (.v (.bool true)) (.t 15), none, false⟩,
  ⟨some 17, .mv (.t 16), none, false⟩,
  ⟨some 18, .mv (.t 1), (some (17, false)), false⟩,
  ⟨some 19, .bin .geq (.t 18) (.v (.int .i64 4)), (some (17, false)), false⟩,
  ⟨some 20, .pick (.t 17) (.v (.bool true)) (.t 19), none, false⟩])
def s_clear_New_p2 : SCode := (.kp [0, 1, 6] (.seq (.kp [0, 1, 6, 20] s_clear_New_p1) (.cond (.t 20) (.seq (.region false [⟨some 4, .mv (.v .nilp), none, false⟩,
  ⟨some 5, .mv (.v (.int .i64 1)), none, false⟩]) .ret) .skip)))
def s_clear_New_p3 : SCode := (.region true [⟨some 21, .mv (.t 0), none, true⟩,
  ⟨some 22, .mv (.t 1), none, true⟩,
  ⟨some 23, .load (some 4) (.t 6), none, true⟩,
  ⟨some 24, .faddr 2 (.t 6), none, true⟩,
  ⟨some 25, .load none (.t 24), none, true⟩,
  ⟨some 26, .faddr 3 (.t 6), none, true⟩,
  ⟨some 27, .load none (.t 26), none, true⟩,
  ⟨some 28, .bin .mul (.t 25) (.t 27), none, true⟩,
  ⟨some 30, .mv (.t 0), none, true⟩,
  ⟨some 31, .call f_grid_World_Epoch [(.t 30)], none, true⟩,
  ⟨some 29, .mkslice [(.int .i64 0)] 8 (.t 28) (.t 28), none, true⟩,
  ⟨some 32, .build [.nilp, (.int .i64 0), (.int .i64 0), (.int .i64 0), (.int .i64 0), (.int .i64 0), .nils, (.int .i64 0)] [(0, 1, (.t 21)), (1, 1, (.t 22)), (2, 4, (.t 23)), (6, 1, (.t 29)), (7, 1, (.t 31))], none, false⟩,
  ⟨some 33, .box false 8 (.t 32), none, false⟩,
  ⟨some 7, .mv (.t 33), none, false⟩])
def s_clear_New_p4 : SCode := (.seq (.region false [⟨some 34, .mv (.t 7), none, false⟩,
  ⟨some 35, .load (some 4) (.t 6), none, false⟩,
  ⟨some 36, .call f_clear_Field_reckon [(.t 34), (.t 35)], none, false⟩]) (.seq (.region false [⟨some 37, .mv (.t 7), none, false⟩,
  ⟨some 4, .mv (.t 37), none, false⟩,
  ⟨some 5, .mv (.v (.int .i64 0)), none, false⟩]) .ret))
def s_clear_New : SFn := ⟨2, [.t 4, .t 5], (.seq (.region false [⟨some 4, .mv (.v .nilp), none, false⟩,
  ⟨some 5, .mv (.v (.int .i64 0)), none, false⟩]) (.seq s_clear_New_p0 (.seq s_clear_New_p2 (.seq (.kp [6, 7] s_clear_New_p3) s_clear_New_p4))))⟩
def s_grid_may_p0 : SCode := (.region false [⟨some 5, .faddr 0 (.t 2), none, false⟩,
  ⟨some 6, .load none (.t 5), none, false⟩,
  ⟨some 7, .bin .geq (.t 6) (.v (.int .i64 1)), none, false⟩,
  ⟨some 8, .mv (.t 7), none, false⟩,
  ⟨some 9, .faddr 0 (.t 2), (some (8, true)), false⟩,
  ⟨some 10, .load none (.t 9), (some (8, true)), false⟩,
  ⟨some 11, .bin .leq (.t 10) (.v (.int .i64 2147483647)), (some (8, true)), false⟩,
  ⟨some 12, .pick (.t 8) (.t 11) (.v (.bool false)), none, false⟩,
  ⟨some 13, .mv (.t 12), none, false⟩,
  ⟨some 14, .faddr 1 (.t 2), (some (13, true)), false⟩,
  ⟨some 15, .faddr 2 (.t 14), (some (13, true)), false⟩,
  ⟨some 16, .load none (.t 15), (some (13, true)), false⟩,
  ⟨some 17, .bin .leq (.t 16) (.v (.int .i64 8)), (some (13, true)), false⟩,
  ⟨some 18, .pick (.t 13) (.t 17) (.v (.bool false)), none, false⟩,
  ⟨some 19, .mv (.t 18), none, false⟩,
  ⟨some 20, .faddr 1 (.t 2), (some (19, true)), false⟩,
  ⟨some 21, .faddr 3 (.t 20), (some (19, true)), false⟩,
  ⟨some 22, .load none (.t 21), (some (19, true)), false⟩,
  ⟨some 23, .bin .leq (.t 22) (.v (.int .i64 8)), (some (19, true)), false⟩,
  ⟨some 24, .pick (.t 19) (.t 23) (.v (.bool false)), none, false⟩,
  ⟨some 25, .mv (.t 24), none, false⟩,
  ⟨some 26, .faddr 1 (.t 2), (some (25, true)), false⟩,
  ⟨some 27, .load (some 4) (.t 26), (some (25, true)), false⟩,
  ⟨some 28, .load (some 4) (.t 3), (some (25, true)), false⟩,
  ⟨some 29, .call f_cell_Within [(.t 27), (.t 28)], (some (25, true)), false⟩,
  ⟨some 30, .pick (.t 25) (.t 29) (.v (.bool false)), none, false⟩,
  ⟨some 4, .mv (.t 30), none, false⟩])
def s_grid_may_p1 : SCode := (.seq (.region false [⟨some 2, .box true 5 (.t 0), none, false⟩,
  ⟨some 3, .box true 4 (.t 1), none, false⟩,
  ⟨some 4, .mv (.v (.bool false)), none, false⟩]) (.seq (.kp [4] s_grid_may_p0) .ret))
def s_grid_may : SFn := ⟨2, [.t 4], s_grid_may_p1⟩
def s_grid_World_May_p0 : SCode := (.region true [⟨some 10, .load none (.t 2), none, false⟩,
  ⟨some 11, .call f_grid_World_is [(.t 10)], none, false⟩,
  ⟨some 12, .un .not (.t 11), none, false⟩,
  ⟨some 13, .mv (.t 12), none, false⟩,
  ⟨some 14, .load (some 5) (.t 3), (some (13, false)), true⟩,
  ⟨some 15, .load none (.t 2), (some (13, false)), true⟩,
  ⟨some 16, .call f_grid_World_All [(.t 15)], (some (13, false)), true⟩,
  ⟨some 17, .call f_grid_may [(.t 14), (.t 16)], (some (13, false)), false⟩,
  ⟨some 18, .un .not (.t 17), (some (13, false)), false⟩,
  ⟨some 19, .pick (.t 13) (.v (.bool true)) (.t 18), none, false⟩])
def s_grid_World_May_p1 : SCode := (.region true [⟨some 21, .load none (.t 2), none, true⟩,
  ⟨some 22, .nilck (.t 21), none, true⟩,
  ⟨some 23, .faddr 3 (.t 22), none, true⟩,
  ⟨some 24, .load none (.t 23), none, true⟩,
  ⟨some 25, .faddr 0 (.t 3), none, true⟩,
  ⟨some 26, .load none (.t 25), none, true⟩,
  ⟨some 27, .lookup false [.int] (.agg [(.int .i64 0), (.int .i64 0), (.int .i64 0), (.int .i64 0)]) true (.t 24) (.t 26), none, false⟩,
  ⟨some 20, .mv (.t 27), none, false⟩,
  ⟨some 28, .ext (.t 20) 0, none, false⟩,
  ⟨some 29, .ext (.t 20) 1, none, true⟩,
  ⟨some 5, .alloc true [(.int .i64 0), (.int .i64 0), (.int .i64 0), (.int .i64 0)], none, true⟩,
  ⟨none, .store 4 [] (.t 5) (.t 28), none, false⟩,
  ⟨some 6, .mv (.t 29), none, false⟩])
def s_grid_World_May_p2 : SCode := (.seq (.kp [2, 3, 4, 6] s_grid_World_May_p1) (.seq (.region false [⟨some 30, .mv (.t 6), none, false⟩]) (.cond (.t 30) (.seq (.region false [⟨none, .store 1 [] (.t 4) (.v (.int .i64 8)), none, false⟩]) .ret) .skip)))
def s_grid_World_May_p3 : SCode := (.region false [⟨some 31, .load none (.t 2), none, false⟩,
  ⟨some 32, .nilck (.t 31), none, false⟩,
  ⟨some 33, .faddr 3 (.t 32), none, false⟩,
  ⟨some 34, .load none (.t 33), none, false⟩,
  ⟨some 35, .mlen (.t 34), none, false⟩,
  ⟨some 36, .bin .geq (.t 35) (.v (.int .i64 256)), none, false⟩])
def s_grid_World_May_p4 : SCode := (.region false [⟨some 7, .alloc true [(.int .i64 0), (.int .i64 0)], none, false⟩,
  ⟨none, .store 2 [] (.t 7) (.t 40), none, false⟩])
def s_grid_World_May_p5 : SCode := (.region true [⟨some 42, .load none (.t 2), none, true⟩,
  ⟨some 43, .nilck (.t 42), none, true⟩,
  ⟨some 44, .faddr 4 (.t 43), none, true⟩,
  ⟨some 45, .load none (.t 44), none, true⟩,
  ⟨some 46, .load (some 2) (.t 7), none, true⟩,
  ⟨some 47, .lookup true [.int, .int] (.int .i64 0) true (.t 45) (.t 46), none, false⟩,
  ⟨some 41, .mv (.t 47), none, false⟩,
  ⟨some 48, .ext (.t 41) 0, none, false⟩,
  ⟨some 49, .ext (.t 41) 1, none, false⟩,
  ⟨some 8, .mv (.t 48), none, false⟩,
  ⟨some 9, .mv (.t 49), none, false⟩])
def s_grid_World_May_p6 : SCode := (.seq (.kp [4, 9] s_grid_World_May_p5) (.seq (.region false [⟨some 50, .mv (.t 9), none, false⟩]) (.cond (.t 50) (.seq (.region false [⟨none, .store 1 [] (.t 4) (.v (.int .i64 6)), none, false⟩]) .ret) .skip)))
def s_grid_World_May_p7 : SCode := (.block 1 s_grid_World_May_p6)
def s_grid_World_May_p8 : SCode := (.seq (.kp [2, 4, 39] (.region false [⟨some 37, .faddr 1 (.t 3), none, false⟩,
  ⟨some 38, .load (some 4) (.t 37), none, false⟩,
  ⟨some 39, .call f_cell_Cells [(.t 38)], none, false⟩])) (.block 0 (.rangef (.t 39) [40] s_grid_World_May_p4 s_grid_World_May_p7)))
def s_grid_World_May_p9 : SCode := (.seq (.kp [2, 3, 4] (.seq (.kp [2, 3, 4, 36] s_grid_World_May_p3) (.cond (.t 36) (.seq (.region false [⟨none, .store 1 [] (.t 4) (.v (.int .i64 2)), none, false⟩]) .ret) .skip))) (.seq (.kp [4] s_grid_World_May_p8) (.seq (.region false [⟨none, .store 1 [] (.t 4) (.v (.int .i64 0)), none, false⟩]) .ret)))
def s_grid_World_May_p10 : SCode := (.seq (.kp [2, 3, 4] (.seq (.kp [2, 3, 4, 19] s_grid_World_May_p0) (.cond (.t 19) (.seq (.region false [⟨none, .store 1 [] (.t 4) (.v (.int .i64 1)), none, false⟩]) .ret) .skip))) (.seq (.kp [2, 3, 4] s_grid_World_May_p2) s_grid_World_May_p9))
def s_grid_World_May : SFn := ⟨2, [.cell 4 none], (.seq (.region false [⟨some 2, .box true 1 (.t 0), none, false⟩,
  ⟨some 3, .box true 5 (.t 1), none, false⟩,
  ⟨some 4, .alloc true [(.int .i64 0)], none, false⟩]) s_grid_World_May_p10)⟩
def s_grid_World_Place_p0 : SCode := (.region false [⟨some 7, .load none (.t 2), none, false⟩,
  ⟨some 8, .load (some 5) (.t 3), none, false⟩,
  ⟨some 9, .call f_grid_World_May [(.t 7), (.t 8)], none, false⟩,
  ⟨some 5, .mv (.t 9), none, false⟩])
def s_grid_World_Place_p1 : SCode := (.seq (.region false [⟨some 10, .mv (.t 5), none, false⟩,
  ⟨some 11, .bin .neq (.t 10) (.v (.int .i64 0)), none, false⟩]) (.cond (.t 11) (.seq (.region false [⟨some 12, .mv (.t 5), none, false⟩,
  ⟨some 4, .mv (.t 12), none, false⟩]) .ret) .skip))
def s_grid_World_Place_p2 : SCode := (.region true [⟨some 13, .load none (.t 2), none, true⟩,
  ⟨some 14, .nilck (.t 13), none, true⟩,
  ⟨some 15, .faddr 3 (.t 14), none, true⟩,
  ⟨some 16, .load none (.t 15), none, true⟩,
  ⟨some 17, .faddr 0 (.t 3), none, true⟩,
  ⟨some 18, .load none (.t 17), none, true⟩,
  ⟨some 19, .faddr 1 (.t 3), none, true⟩,
  ⟨some 20, .load (some 4) (.t 19), none, true⟩,
  ⟨none, .mapset false [.int] (.t 16) (.t 18) (.t 20), none, false⟩])
def s_grid_World_Place_p3 : SCode := (.region false [⟨some 6, .alloc true [(.int .i64 0), (.int .i64 0)], none, false⟩,
  ⟨none, .store 2 [] (.t 6) (.t 24), none, false⟩])
def s_grid_World_Place_p4 : SCode := (.region true [⟨some 25, .load none (.t 2), none, true⟩,
  ⟨some 26, .nilck (.t 25), none, true⟩,
  ⟨some 27, .faddr 4 (.t 26), none, true⟩,
  ⟨some 28, .load none (.t 27), none, true⟩,
  ⟨some 29, .load (some 2) (.t 6), none, true⟩,
  ⟨some 30, .faddr 0 (.t 3), none, true⟩,
  ⟨some 31, .load none (.t 30), none, true⟩,
  ⟨none, .mapset true [.int, .int] (.t 28) (.t 29) (.t 31), none, false⟩])
def s_grid_World_Place_p5 : SCode := (.block 1 s_grid_World_Place_p4)
def s_grid_World_Place_p6 : SCode := (.seq (.kp [2, 3, 23] (.region false [⟨some 21, .faddr 1 (.t 3), none, false⟩,
  ⟨some 22, .load (some 4) (.t 21), none, false⟩,
  ⟨some 23, .call f_cell_Cells [(.t 22)], none, false⟩])) (.block 0 (.rangef (.t 23) [24] s_grid_World_Place_p3 s_grid_World_Place_p5)))
def s_grid_World_Place_p7 : SCode := (.region true [⟨some 32, .load none (.t 2), none, true⟩,
  ⟨some 33, .load none (.t 2), none, true⟩,
  ⟨some 34, .nilck (.t 33), none, true⟩,
  ⟨some 35, .faddr 5 (.t 34), none, true⟩,
  ⟨some 36, .load none (.t 35), none, true⟩,
  ⟨some 37, .faddr 1 (.t 3), none, true⟩,
  ⟨some 38, .load (some 4) (.t 37), none, true⟩,
  ⟨some 39, .bslice [(.int .i64 0), (.int .i64 0), (.int .i64 0), (.int .i64 0)] 1 4 [(0, 4, (.t 38))], none, true⟩,
  ⟨some 40, .append 4 32 [(.int .i64 0), (.int .i64 0), (.int .i64 0), (.int .i64 0)] [(.t 2)] (.t 36) (.t 39), none, false⟩,
  ⟨some 41, .nilck (.t 32), none, false⟩,
  ⟨some 42, .faddr 5 (.t 41), none, false⟩,
  ⟨none, .store 1 [] (.t 42) (.t 40), none, false⟩])
def s_grid_World_Place_p8 : SCode := (.seq (.kp [2, 3] (.seq s_grid_World_Place_p0 s_grid_World_Place_p1)) (.seq (.kp [2, 3] s_grid_World_Place_p2) (.seq (.kp [2, 3] s_grid_World_Place_p6) (.seq (.kp [] s_grid_World_Place_p7) (.seq (.region false [⟨some 4, .mv (.v (.int .i64 0)), none, false⟩]) .ret)))))
def s_grid_World_Place : SFn := ⟨2, [.t 4], (.seq (.region false [⟨some 2, .box true 1 (.t 0), none, false⟩,
  ⟨some 3, .box true 5 (.t 1), none, false⟩,
  ⟨some 4, .mv (.v (.int .i64 0)), none, false⟩]) s_grid_World_Place_p8)⟩
def s_slices_Clone_byte_byte_p0 : SCode := (.seq (.region false [⟨some 3, .mv (.t 0), none, false⟩,
  ⟨some 4, .eq false false [.slice] (.t 3) (.v .nils), none, false⟩]) (.cond (.t 4) (.seq (.region false [⟨some 2, .mv (.v .nils), none, false⟩]) .ret) .skip))
def s_slices_Clone_byte_byte_p1 : SCode := (.region false [⟨some 5, .bslice [] 0 1 [], none, false⟩,
  ⟨some 6, .mv (.t 0), none, false⟩,
  ⟨some 7, .append 1 1 [(.int .u8 0)] [] (.t 5) (.t 6), none, false⟩,
  ⟨some 2, .mv (.t 7), none, false⟩])
def s_slices_Clone_byte_byte : SFn := ⟨1, [.t 2], (.seq (.region false [⟨some 2, .mv (.v .nils), none, false⟩]) (.seq (.kp [0] s_slices_Clone_byte_byte_p0) (.seq s_slices_Clone_byte_byte_p1 .ret)))⟩
def s_grid_New_p0 : SCode := (.region false [⟨some 10, .faddr 0 (.t 1), none, false⟩,
  ⟨some 11, .load none (.t 10), none, false⟩,
  ⟨some 12, .bin .lss (.t 11) (.v (.int .i64 1)), none, false⟩,
  ⟨some 13, .mv (.t 12), none, false⟩,
  ⟨some 14, .faddr 0 (.t 1), (some (13, false)), false⟩,
  ⟨some 15, .load none (.t 14), (some (13, false)), false⟩,
  ⟨some 16, .bin .gtr (.t 15) (.v (.int .i64 128)), (some (13, false)), false⟩,
  ⟨some 17, .pick (.t 13) (.v (.bool true)) (.t 16), none, false⟩,
  ⟨some 18, .mv (.t 17), none, false⟩,
  ⟨some 19, .faddr 1 (.t 1), (some (18, false)), false⟩,
  ⟨some 20, .load none (.t 19), (some (18, false)), false⟩,
  ⟨some 21, .bin .lss (.t 20) (.v (.int .i64 1)), (some (18, false)), false⟩,
  ⟨some 22, .pick (.t 18) (.v (.bool true)) (.t 21), none, false⟩,
  ⟨some 23, .mv (.t 22), none, false⟩,
  ⟨some 24, .faddr 1 (.t 1), (some (23, false)), false⟩,
  ⟨some 25, .load none (.t 24), (some (23, false)), false⟩,
  ⟨some 26, .bin .gtr (.t 25) (.v (.int .i64 128)), (some (23, false)), false⟩,
  ⟨some 27, .pick (.t 23) (.v (.bool true)) (.t 26), none, false⟩,
  ⟨some 28, .mv (.t 27), none, false⟩,
  ⟨some 29, .faddr 2 (.t 1), (some (28, false)), false⟩,
  ⟨some 30, .load none (.t 29), (some (28, false)), false⟩,
  ⟨some 31, .len (.t 30), (some (28, false)), false⟩,
  ⟨some 32, .faddr 0 (.t 1), (some (28, false)), false⟩,
  ⟨some 33, .load none (.t 32), (some (28, false)), false⟩,
  ⟨some 34, .faddr 1 (.t 1), (some (28, false)), false⟩,
  ⟨some 35, .load none (.t 34), (some (28, false)), false⟩,
  ⟨some 36, .bin .mul (.t 33) (.t 35), (some (28, false)), false⟩,
  ⟨some 37, .bin .neq (.t 31) (.t 36), (some (28, false)), false⟩,
  ⟨some 38, .pick (.t 28) (.v (.bool true)) (.t 37), none, false⟩])
def s_grid_New_p1 : SCode := (.region false [⟨some 39, .faddr 2 (.t 1), none, false⟩,
  ⟨some 40, .load none (.t 39), none, false⟩,
  ⟨some 41, .len (.t 40), none, false⟩,
  ⟨some 42, .mv (.v (.int .i64 0)), none, false⟩])
def s_grid_New_p2 : SCode := (.seq (.region false [⟨some 46, .mv (.t 5), none, false⟩,
  ⟨some 47, .bin .geq (.t 46) (.v (.int .u8 4)), none, false⟩]) (.cond (.t 47) (.seq (.region false [⟨some 2, .mv (.v .nilp), none, false⟩,
  ⟨some 3, .mv (.v (.int .i64 1)), none, false⟩]) .ret) .skip))
def s_grid_New_p3 : SCode := (.kp [1, 40, 41, 42] (.block 1 (.seq (.region false [⟨some 44, .iaddr 1 (.t 40) (.t 42), none, false⟩,
  ⟨some 45, .load none (.t 44), none, false⟩,
  ⟨some 5, .mv (.t 45), none, false⟩]) s_grid_New_p2)))
def s_grid_New_p4 : SCode := (.seq (.kp [1, 40, 41, 42] (.cond (.t 43) .skip (.exit 0))) (.seq s_grid_New_p3 (.region false [⟨some 48, .bin .add (.t 42) (.v (.int .i64 1)), none, false⟩,
  ⟨some 42, .mv (.t 48), none, false⟩])))
def s_grid_New_p5 : SCode := (.seq (.region false [⟨some 43, .bin .lss (.t 42) (.t 41), none, false⟩]) s_grid_New_p4)
def s_grid_New_p6 : SCode := (.region true [⟨some 49, .faddr 0 (.t 1), none, true⟩,
  ⟨some 50, .load none (.t 49), none, true⟩,
  ⟨some 51, .faddr 1 (.t 1), none, true⟩,
  ⟨some 52, .load none (.t 51), none, true⟩,
  ⟨some 53, .faddr 2 (.t 1), none, true⟩,
  ⟨some 54, .load none (.t 53), none, true⟩,
  ⟨some 55, .call f_slices_Clone_byte_byte [(.t 54)], none, true⟩,
  ⟨some 56, .mkmap, none, true⟩,
  ⟨some 57, .mkmap, none, true⟩,
  ⟨some 58, .build [(.int .i64 0), (.int .i64 0), .nils, .nilm, .nilm, .nils] [(0, 1, (.t 50)), (1, 1, (.t 52)), (2, 1, (.t 55)), (3, 1, (.t 56)), (4, 1, (.t 57)), (5, 1, (.v .nils))], none, false⟩,
  ⟨some 59, .box false 6 (.t 58), none, false⟩,
  ⟨some 6, .mv (.t 59), none, false⟩])
def s_grid_New_p7 : SCode := (.region false [⟨some 60, .faddr 3 (.t 1), none, false⟩,
  ⟨some 61, .load none (.t 60), none, false⟩,
  ⟨some 62, .len (.t 61), none, false⟩,
  ⟨some 63, .mv (.v (.int .i64 0)), none, false⟩])
def s_grid_New_p8 : SCode := (.region false [⟨some 65, .iaddr 5 (.t 61) (.t 63), none, false⟩,
  ⟨some 66, .load (some 5) (.t 65), none, false⟩,
  ⟨some 9, .alloc true [(.int .i64 0), (.int .i64 0), (.int .i64 0), (.int .i64 0), (.int .i64 0)], none, false⟩,
  ⟨none, .store 5 [] (.t 9) (.t 66), none, false⟩])
def s_grid_New_p9 : SCode := (.region false [⟨some 67, .faddr 0 (.t 9), none, false⟩,
  ⟨some 68, .load none (.t 67), none, false⟩,
  ⟨some 69, .mv (.t 7), none, false⟩,
  ⟨some 70, .bin .leq (.t 68) (.t 69), none, false⟩,
  ⟨some 71, .mv (.t 70), none, false⟩,
  ⟨some 72, .mv (.t 6), (some (71, false)), false⟩,
  ⟨some 73, .load (some 5) (.t 9), (some (71, false)), false⟩,
  ⟨some 74, .call f_grid_World_Place [(.t 72), (.t 73)], (some (71, false)), false⟩,
  ⟨some 75, .bin .neq (.t 74) (.v (.int .i64 0)), (some (71, false)), false⟩,
  ⟨some 76, .pick (.t 71) (.v (.bool true)) (.t 75), none, false⟩])
def s_grid_New_p10 : SCode := (.seq (.kp [6, 9, 61, 62, 63, 76] s_grid_New_p9) (.cond (.t 76) (.seq (.region false [⟨some 2, .mv (.v .nilp), none, false⟩,
  ⟨some 3, .mv (.v (.int .i64 1)), none, false⟩]) .ret) .skip))
def s_grid_New_p11 : SCode := (.seq (.kp [6, 9, 61, 62, 63] s_grid_New_p10) (.region false [⟨some 77, .faddr 0 (.t 9), none, false⟩,
  ⟨some 78, .load none (.t 77), none, false⟩,
  ⟨some 7, .mv (.t 78), none, false⟩]))
def s_grid_New_p12 : SCode := (.seq (.kp [6, 7, 61, 62, 63] (.block 3 (.seq s_grid_New_p8 s_grid_New_p11))) (.region false [⟨some 79, .bin .add (.t 63) (.v (.int .i64 1)), none, false⟩,
  ⟨some 63, .mv (.t 79), none, false⟩]))
def s_grid_New_p13 : SCode := (.seq (.region false [⟨some 64, .bin .lss (.t 63) (.t 62), none, false⟩]) (.seq (.kp [6, 7, 61, 62, 63] (.cond (.t 64) .skip (.exit 2))) s_grid_New_p12))
def s_grid_New_p14 : SCode := (.region false [⟨some 80, .mv (.t 6), none, false⟩,
  ⟨some 81, .nilck (.t 80), none, false⟩,
  ⟨some 82, .faddr 5 (.t 81), none, false⟩,
  ⟨none, .store 1 [] (.t 82) (.v .nils), none, false⟩])
def s_grid_New_p15 : SCode := (.seq (.kp [6] (.seq (.kp [6, 7, 61, 62, 63] s_grid_New_p7) (.block 2 (.loop (some [6, 7, 61, 62, 63]) s_grid_New_p13)))) (.seq s_grid_New_p14 (.seq (.region false [⟨some 83, .mv (.t 6), none, false⟩,
  ⟨some 2, .mv (.t 83), none, false⟩,
  ⟨some 3, .mv (.v (.int .i64 0)), none, false⟩]) .ret)))
def s_grid_New_p16 : SCode := (.seq (.kp [1] (.seq (.kp [1, 40, 41, 42] s_grid_New_p1) (.block 0 (.loop (some [1, 40, 41, 42]) s_grid_New_p5)))) (.seq (.kp [1, 6] s_grid_New_p6) (.seq (.region false [⟨some 7, .mv (.v (.int .i64 0)), none, false⟩]) s_grid_New_p15)))
def s_grid_New_p17 : SCode := (.seq (.kp [1] (.seq (.kp [1, 38] s_grid_New_p0) (.cond (.t 38) (.seq (.region false [⟨some 2, .mv (.v .nilp), none, false⟩,
  ⟨some 3, .mv (.v (.int .i64 1)), none, false⟩]) .ret) .skip))) s_grid_New_p16)
def s_grid_New : SFn := ⟨1, [.t 2, .t 3], (.seq (.region false [⟨some 1, .box true 4 (.t 0), none, false⟩,
  ⟨some 2, .mv (.v .nilp), none, false⟩,
  ⟨some 3, .mv (.v (.int .i64 0)), none, false⟩]) s_grid_New_p17)⟩
def s_ref03_Last_p0 : SCode := (.region false [⟨some 3, .faddr 0 (.t 1), none, false⟩,
  ⟨some 4, .faddr 0 (.t 3), none, false⟩,
  ⟨some 5, .load none (.t 4), none, false⟩,
  ⟨some 6, .faddr 2 (.t 1), none, false⟩,
  ⟨some 7, .load none (.t 6), none, false⟩,
  ⟨some 8, .bin .add (.t 5) (.t 7), none, false⟩,
  ⟨some 9, .bin .sub (.t 8) (.v (.int .i64 1)), none, false⟩,
  ⟨some 10, .faddr 0 (.t 1), none, false⟩,
  ⟨some 11, .faddr 1 (.t 10), none, false⟩,
  ⟨some 12, .load none (.t 11), none, false⟩,
  ⟨some 13, .faddr 3 (.t 1), none, false⟩,
  ⟨some 14, .load none (.t 13), none, false⟩,
  ⟨some 15, .bin .add (.t 12) (.t 14), none, false⟩,
  ⟨some 16, .bin .sub (.t 15) (.v (.int .i64 1)), none, false⟩,
  ⟨some 17, .build [(.int .i64 0), (.int .i64 0)] [(0, 1, (.t 9)), (1, 1, (.t 16))], none, false⟩,
  ⟨none, .store 2 [] (.t 2) (.t 17), none, false⟩])
def s_ref03_Last : SFn := ⟨1, [.cell 2 (some 2)], (.seq (.region false [⟨some 1, .box true 4 (.t 0), none, false⟩,
  ⟨some 2, .alloc true [(.int .i64 0), (.int .i64 0)], none, false⟩]) (.seq (.kp [2] s_ref03_Last_p0) .ret))⟩
def s_ref03_near_p0 : SCode := (.region false [⟨some 3, .mv (.t 0), none, false⟩,
  ⟨some 4, .bin .geq (.t 3) (.v (.int .i64 (-1048576))), none, false⟩,
  ⟨some 5, .mv (.t 4), none, false⟩,
  ⟨some 6, .mv (.t 0), (some (5, true)), false⟩,
  ⟨some 7, .bin .leq (.t 6) (.v (.int .i64 1048576)), (some (5, true)), false⟩,
  ⟨some 8, .pick (.t 5) (.t 7) (.v (.bool false)), none, false⟩,
  ⟨some 2, .mv (.t 8), none, false⟩])
def s_ref03_near : SFn := ⟨1, [.t 2], (.seq (.region false [⟨some 2, .mv (.v (.bool false)), none, false⟩]) (.seq (.kp [2] s_ref03_near_p0) .ret))⟩
def s_ref03_Near_p0 : SCode := (.region false [⟨some 3, .faddr 0 (.t 1), none, false⟩,
  ⟨some 4, .load none (.t 3), none, false⟩,
  ⟨some 5, .call f_ref03_near [(.t 4)], none, false⟩,
  ⟨some 6, .mv (.t 5), none, false⟩,
  ⟨some 7, .faddr 1 (.t 1), (some (6, true)), false⟩,
  ⟨some 8, .load none (.t 7), (some (6, true)), false⟩,
  ⟨some 9, .call f_ref03_near [(.t 8)], (some (6, true)), false⟩,
  ⟨some 10, .pick (.t 6) (.t 9) (.v (.bool false)), none, false⟩,
  ⟨some 2, .mv (.t 10), none, false⟩])
def s_ref03_Near : SFn := ⟨1, [.t 2], (.seq (.region false [⟨some 1, .box true 2 (.t 0), none, false⟩,
  ⟨some 2, .mv (.v (.bool false)), none, false⟩]) (.seq (.kp [2] s_ref03_Near_p0) .ret))⟩
def s_ref03_May_p0 : SCode := (.region false [⟨some 3, .faddr 0 (.t 1), none, false⟩,
  ⟨some 4, .load (some 2) (.t 3), none, false⟩,
  ⟨some 5, .call f_ref03_Near [(.t 4)], none, false⟩,
  ⟨some 6, .mv (.t 5), none, false⟩,
  ⟨some 7, .faddr 2 (.t 1), (some (6, true)), false⟩,
  ⟨some 8, .load none (.t 7), (some (6, true)), false⟩,
  ⟨some 9, .bin .geq (.t 8) (.v (.int .i64 1)), (some (6, true)), false⟩,
  ⟨some 10, .pick (.t 6) (.t 9) (.v (.bool false)), none, false⟩,
  ⟨some 11, .mv (.t 10), none, false⟩,
  ⟨some 12, .faddr 2 (.t 1), (some (11, true)), false⟩,
  ⟨some 13, .load none (.t 12), (some (11, true)), false⟩,
  ⟨some 14, .bin .leq (.t 13) (.v (.int .i64 1048576)), (some (11, true)), false⟩,
  ⟨some 15, .pick (.t 11) (.t 14) (.v (.bool false)), none, false⟩,
  ⟨some 16, .mv (.t 15), none, false⟩,
  ⟨some 17, .faddr 3 (.t 1), (some (16, true)), false⟩,
  ⟨some 18, .load none (.t 17), (some (16, true)), false⟩,
  ⟨some 19, .bin .geq (.t 18) (.v (.int .i64 1)), (some (16, true)), false⟩,
  ⟨some 20, .pick (.t 16) (.t 19) (.v (.bool false)), none, false⟩,
  ⟨some 21, .mv (.t 20), none, false⟩,
  ⟨some 22, .faddr 3 (.t 1), (some (21, true)), false⟩,
  ⟨some 23, .load none (.t 22), (some (21, true)), false⟩,
  ⟨some 24, .bin .leq (.t 23) (.v (.int .i64 1048576)), (some (21, true)), false⟩,
  ⟨some 25, .pick (.t 21) (.t 24) (.v (.bool false)), none, false⟩,
  ⟨some 26, .mv (.t 25), none, false⟩,
  ⟨some 27, .load (some 4) (.t 1), (some (26, true)), false⟩,
  ⟨some 28, .call f_ref03_Last [(.t 27)], (some (26, true)), false⟩,
  ⟨some 29, .call f_ref03_Near [(.t 28)], (some (26, true)), false⟩,
  ⟨some 30, .pick (.t 26) (.t 29) (.v (.bool false)), none, false⟩,
  ⟨some 2, .mv (.t 30), none, false⟩])
def s_ref03_May : SFn := ⟨1, [.t 2], (.seq (.region false [⟨some 1, .box true 4 (.t 0), none, false⟩,
  ⟨some 2, .mv (.v (.bool false)), none, false⟩]) (.seq (.kp [2] s_ref03_May_p0) .ret))⟩
def s_ref03_Has_p0 : SCode := (.region true [⟨some 5, .load (some 4) (.t 2), none, false⟩,
  ⟨some 6, .call f_ref03_May [(.t 5)], none, false⟩,
  ⟨some 7, .mv (.t 6), none, false⟩,
  ⟨some 8, .faddr 0 (.t 3), (some (7, true)), true⟩,
  ⟨some 9, .load none (.t 8), (some (7, true)), true⟩,
  ⟨some 10, .faddr 0 (.t 2), (some (7, true)), true⟩,
  ⟨some 11, .faddr 0 (.t 10), (some (7, true)), true⟩,
  ⟨some 12, .load none (.t 11), (some (7, true)), true⟩,
  ⟨some 13, .bin .geq (.t 9) (.t 12), (some (7, true)), false⟩,
  ⟨some 14, .pick (.t 7) (.t 13) (.v (.bool false)), none, false⟩,
  ⟨some 15, .mv (.t 14), none, false⟩,
  ⟨some 16, .faddr 1 (.t 3), (some (15, true)), true⟩,
  ⟨some 17, .load none (.t 16), (some (15, true)), true⟩,
  ⟨some 18, .faddr 0 (.t 2), (some (15, true)), true⟩,
  ⟨some 19, .faddr 1 (.t 18), (some (15, true)), true⟩,
  ⟨some 20, .load none (.t 19), (some (15, true)), true⟩,
  ⟨some 21, .bin .geq (.t 17) (.t 20), (some (15, true)), false⟩,
  ⟨some 22, .pick (.t 15) (.t 21) (.v (.bool false)), none, false⟩,
  ⟨some 23, .mv (.t 22), none, false⟩,
  ⟨some 24, .faddr 0 (.t 3), (some (23, true)), true⟩,
  ⟨some 25, .load none (.t 24), (some (23, true)), true⟩,
  ⟨some 26, .load (some 4) (.t 2), (some (23, true)), true⟩,
  ⟨some 27, .call f_ref03_Last [(.t 26)], (some (23, true)), true⟩,
  ⟨some 28, .field 0 none (.t 27), (some (23, true)), true⟩,
  ⟨some 29, .bin .leq (.t 25) (.t 28), (some (23, true)), false⟩,
  ⟨some 30, .pick (.t 23) (.t 29) (.v (.bool false)), none, false⟩,
  ⟨some 31, .mv (.t 30), none, false⟩,
  ⟨some 32, .faddr 1 (.t 3), (some (31, true)), true⟩,
  ⟨some 33, .load none (.t 32), (some (31, true)), true⟩,
  ⟨some 34, .load (some 4) (.t 2), (some (31, true)), true⟩,
  ⟨some 35, .call f_ref03_Last [(.t 34)], (some (31, true)), true⟩,
  ⟨some 36, .field 1 none (.t 35), (some (31, true)), true⟩,
  ⟨some 37, .bin .leq (.t 33) (.t 36), (some (31, true)), false⟩,
  ⟨some 38, .pick (.t 31) (.t 37) (.v (.bool false)), none, false⟩,
  ⟨some 4, .mv (.t 38), none, false⟩])
def s_ref03_Has_p1 : SCode := (.seq (.region false [⟨some 2, .box true 4 (.t 0), none, false⟩,
  ⟨some 3, .box true 2 (.t 1), none, false⟩,
  ⟨some 4, .mv (.v (.bool false)), none, false⟩]) (.seq (.kp [4] s_ref03_Has_p0) .ret))
def s_ref03_Has : SFn := ⟨2, [.t 4], s_ref03_Has_p1⟩
def s_ref03_Within_p0 : SCode := (.region true [⟨some 5, .load (some 4) (.t 2), none, false⟩,
  ⟨some 6, .call f_ref03_May [(.t 5)], none, false⟩,
  ⟨some 7, .mv (.t 6), none, false⟩,
  ⟨some 8, .load (some 4) (.t 3), (some (7, true)), true⟩,
  ⟨some 9, .faddr 0 (.t 2), (some (7, true)), true⟩,
  ⟨some 10, .load (some 2) (.t 9), (some (7, true)), true⟩,
  ⟨some 11, .call f_ref03_Has [(.t 8), (.t 10)], (some (7, true)), false⟩,
  ⟨some 12, .pick (.t 7) (.t 11) (.v (.bool false)), none, false⟩,
  ⟨some 13, .mv (.t 12), none, false⟩,
  ⟨some 14, .load (some 4) (.t 3), (some (13, true)), true⟩,
  ⟨some 15, .load (some 4) (.t 2), (some (13, true)), true⟩,
  ⟨some 16, .call f_ref03_Last [(.t 15)], (some (13, true)), true⟩,
  ⟨some 17, .call f_ref03_Has [(.t 14), (.t 16)], (some (13, true)), false⟩,
  ⟨some 18, .pick (.t 13) (.t 17) (.v (.bool false)), none, false⟩,
  ⟨some 4, .mv (.t 18), none, false⟩])
def s_ref03_Within_p1 : SCode := (.seq (.region false [⟨some 2, .box true 4 (.t 0), none, false⟩,
  ⟨some 3, .box true 4 (.t 1), none, false⟩,
  ⟨some 4, .mv (.v (.bool false)), none, false⟩]) (.seq (.kp [4] s_ref03_Within_p0) .ret))
def s_ref03_Within : SFn := ⟨2, [.t 4], s_ref03_Within_p1⟩
def s_ref04_MayBe_p0 : SCode := (.region false [⟨some 5, .faddr 0 (.t 2), none, false⟩,
  ⟨some 6, .load none (.t 5), none, false⟩,
  ⟨some 7, .bin .geq (.t 6) (.v (.int .i64 1)), none, false⟩,
  ⟨some 8, .mv (.t 7), none, false⟩,
  ⟨some 9, .faddr 0 (.t 2), (some (8, true)), false⟩,
  ⟨some 10, .load none (.t 9), (some (8, true)), false⟩,
  ⟨some 11, .bin .leq (.t 10) (.v (.int .i64 2147483647)), (some (8, true)), false⟩,
  ⟨some 12, .pick (.t 8) (.t 11) (.v (.bool false)), none, false⟩,
  ⟨some 13, .mv (.t 12), none, false⟩,
  ⟨some 14, .faddr 1 (.t 2), (some (13, true)), false⟩,
  ⟨some 15, .faddr 2 (.t 14), (some (13, true)), false⟩,
  ⟨some 16, .load none (.t 15), (some (13, true)), false⟩,
  ⟨some 17, .bin .geq (.t 16) (.v (.int .i64 1)), (some (13, true)), false⟩,
  ⟨some 18, .pick (.t 13) (.t 17) (.v (.bool false)), none, false⟩,
  ⟨some 19, .mv (.t 18), none, false⟩,
  ⟨some 20, .faddr 1 (.t 2), (some (19, true)), false⟩,
  ⟨some 21, .faddr 2 (.t 20), (some (19, true)), false⟩,
  ⟨some 22, .load none (.t 21), (some (19, true)), false⟩,
  ⟨some 23, .bin .leq (.t 22) (.v (.int .i64 8)), (some (19, true)), false⟩,
  ⟨some 24, .pick (.t 19) (.t 23) (.v (.bool false)), none, false⟩,
  ⟨some 25, .mv (.t 24), none, false⟩,
  ⟨some 26, .faddr 1 (.t 2), (some (25, true)), false⟩,
  ⟨some 27, .faddr 3 (.t 26), (some (25, true)), false⟩,
  ⟨some 28, .load none (.t 27), (some (25, true)), false⟩,
  ⟨some 29, .bin .geq (.t 28) (.v (.int .i64 1)), (some (25, true)), false⟩,
  ⟨some 30, .pick (.t 25) (.t 29) (.v (.bool false)), none, false⟩,
  ⟨some 31, .mv (.t 30), none, false⟩,
  ⟨some 32, .faddr 1 (.t 2), (some (31, true)), false⟩,
  ⟨some 33, .faddr 3 (.t 32), (some (31, true)), false⟩,
  ⟨some 34, .load none (.t 33), (some (31, true)), false⟩,
  ⟨some 35, .bin .leq (.t 34) (.v (.int .i64 8)), (some (31, true)), false⟩,
  ⟨some 36, .pick (.t 31) (.t 35) (.v (.bool false)), none, false⟩,
  ⟨some 37, .mv (.t 36), none, false⟩,
  ⟨some 38, .faddr 1 (.t 2), (some (37, true)), false⟩,
  ⟨some 39, .load (some 4) (.t 38), (some (37, true)), false⟩,
  ⟨some 40, .load (some 4) (.t 3), (some (37, true)), false⟩,
  ⟨some 41, .call f_ref03_Within [(.t 39), (.t 40)], (some (37, true)), false⟩,
  ⟨some 42, .pick (.t 37) (.t 41) (.v (.bool false)), none, false⟩,
  ⟨some 4, .mv (.t 42), none, false⟩])
def s_ref04_MayBe_p1 : SCode := (.seq (.region false [⟨some 2, .box true 5 (.t 0), none, false⟩,
  ⟨some 3, .box true 4 (.t 1), none, false⟩,
  ⟨some 4, .mv (.v (.bool false)), none, false⟩]) (.seq (.kp [4] s_ref04_MayBe_p0) .ret))
def s_ref04_MayBe : SFn := ⟨2, [.t 4], s_ref04_MayBe_p1⟩
def s_ref03_Meet_p0 : SCode := (.region false [⟨some 2, .box true 4 (.t 0), none, false⟩,
  ⟨some 3, .box true 4 (.t 1), none, false⟩,
  ⟨some 4, .alloc true [(.int .i64 0), (.int .i64 0), (.int .i64 0), (.int .i64 0)], none, false⟩,
  ⟨some 5, .mv (.v (.bool false)), none, false⟩])
def s_ref03_Meet_p1 : SCode := (.region false [⟨some 10, .load (some 4) (.t 2), none, false⟩,
  ⟨some 11, .call f_ref03_May [(.t 10)], none, false⟩,
  ⟨some 12, .un .not (.t 11), none, false⟩,
  ⟨some 13, .mv (.t 12), none, false⟩,
  ⟨some 14, .load (some 4) (.t 3), (some (13, false)), false⟩,
  ⟨some 15, .call f_ref03_May [(.t 14)], (some (13, false)), false⟩,
  ⟨some 16, .un .not (.t 15), (some (13, false)), false⟩,
  ⟨some 17, .pick (.t 13) (.v (.bool true)) (.t 16), none, false⟩])
def s_ref03_Meet_p2 : SCode := (.region false [⟨some 18, .build [(.int .i64 0), (.int .i64 0), (.int .i64 0), (.int .i64 0)] [], none, false⟩,
  ⟨none, .store 4 [] (.t 4) (.t 18), none, false⟩,
  ⟨some 5, .mv (.v (.bool false)), none, false⟩])
def s_ref03_Meet_p3 : SCode := (.region true [⟨some 19, .faddr 0 (.t 2), none, true⟩,
  ⟨some 20, .faddr 0 (.t 19), none, true⟩,
  ⟨some 21, .load none (.t 20), none, true⟩,
  ⟨some 22, .faddr 0 (.t 2), none, true⟩,
  ⟨some 23, .faddr 1 (.t 22), none, true⟩,
  ⟨some 24, .load none (.t 23), none, true⟩,
  ⟨some 6, .mv (.t 21), none, true⟩,
  ⟨some 7, .mv (.t 24), none, false⟩])
def s_ref03_Meet_p4 : SCode := (.region false [⟨some 25, .faddr 0 (.t 3), none, false⟩,
  ⟨some 26, .faddr 0 (.t 25), none, false⟩,
  ⟨some 27, .load none (.t 26), none, false⟩,
  ⟨some 28, .mv (.t 6), none, false⟩,
  ⟨some 29, .bin .gtr (.t 27) (.t 28), none, false⟩])
def s_ref03_Meet_p5 : SCode := (.region false [⟨some 30, .faddr 0 (.t 3), none, false⟩,
  ⟨some 31, .faddr 0 (.t 30), none, false⟩,
  ⟨some 32, .load none (.t 31), none, false⟩,
  ⟨some 6, .mv (.t 32), none, false⟩])
def s_ref03_Meet_p6 : SCode := (.region false [⟨some 33, .faddr 0 (.t 3), none, false⟩,
  ⟨some 34, .faddr 1 (.t 33), none, false⟩,
  ⟨some 35, .load none (.t 34), none, false⟩,
  ⟨some 36, .mv (.t 7), none, false⟩,
  ⟨some 37, .bin .gtr (.t 35) (.t 36), none, false⟩])
def s_ref03_Meet_p7 : SCode := (.region false [⟨some 38, .faddr 0 (.t 3), none, false⟩,
  ⟨some 39, .faddr 1 (.t 38), none, false⟩,
  ⟨some 40, .load none (.t 39), none, false⟩,
  ⟨some 7, .mv (.t 40), none, false⟩])
def s_ref03_Meet_p8 : SCode := (.region true [⟨some 41, .load (some 4) (.t 2), none, true⟩,
  ⟨some 43, .load (some 4) (.t 3), none, true⟩,
  ⟨some 42, .call f_ref03_Last [(.t 41)], none, true⟩,
  ⟨some 44, .call f_ref03_Last [(.t 43)], none, false⟩,
  ⟨some 8, .alloc true [(.int .i64 0), (.int .i64 0)], none, true⟩,
  ⟨some 9, .alloc true [(.int .i64 0), (.int .i64 0)], none, true⟩,
  ⟨none, .store 2 [] (.t 8) (.t 42), none, false⟩,
  ⟨none, .store 2 [] (.t 9) (.t 44), none, false⟩])
def s_ref03_Meet_p9 : SCode := (.region false [⟨some 45, .faddr 0 (.t 9), none, false⟩,
  ⟨some 46, .load none (.t 45), none, false⟩,
  ⟨some 47, .faddr 0 (.t 8), none, false⟩,
  ⟨some 48, .load none (.t 47), none, false⟩,
  ⟨some 49, .bin .lss (.t 46) (.t 48), none, false⟩])
def s_ref03_Meet_p10 : SCode := (.region false [⟨some 50, .faddr 0 (.t 9), none, false⟩,
  ⟨some 51, .load none (.t 50), none, false⟩,
  ⟨some 52, .faddr 0 (.t 8), none, false⟩,
  ⟨none, .store 1 [] (.t 52) (.t 51), none, false⟩])
def s_ref03_Meet_p11 : SCode := (.region false [⟨some 53, .faddr 1 (.t 9), none, false⟩,
  ⟨some 54, .load none (.t 53), none, false⟩,
  ⟨some 55, .faddr 1 (.t 8), none, false⟩,
  ⟨some 56, .load none (.t 55), none, false⟩,
  ⟨some 57, .bin .lss (.t 54) (.t 56), none, false⟩])
def s_ref03_Meet_p12 : SCode := (.region false [⟨some 58, .faddr 1 (.t 9), none, false⟩,
  ⟨some 59, .load none (.t 58), none, false⟩,
  ⟨some 60, .faddr 1 (.t 8), none, false⟩,
  ⟨none, .store 1 [] (.t 60) (.t 59), none, false⟩])
def s_ref03_Meet_p13 : SCode := (.region false [⟨some 61, .faddr 0 (.t 8), none, false⟩,
  ⟨some 62, .load none (.t 61), none, false⟩,
  ⟨some 63, .mv (.t 6), none, false⟩,
  ⟨some 64, .bin .lss (.t 62) (.t 63), none, false⟩,
  ⟨some 65, .mv (.t 64), none, false⟩,
  ⟨some 66, .faddr 1 (.t 8), (some (65, false)), false⟩,
  ⟨some 67, .load none (.t 66), (some (65, false)), false⟩,
  ⟨some 68, .mv (.t 7), (some (65, false)), false⟩,
  ⟨some 69, .bin .lss (.t 67) (.t 68), (some (65, false)), false⟩,
  ⟨some 70, .pick (.t 65) (.v (.bool true)) (.t 69), none, false⟩])
def s_ref03_Meet_p14 : SCode := (.region false [⟨some 71, .build [(.int .i64 0), (.int .i64 0), (.int .i64 0), (.int .i64 0)] [], none, false⟩,
  ⟨none, .store 4 [] (.t 4) (.t 71), none, false⟩,
  ⟨some 5, .mv (.v (.bool false)), none, false⟩])
def s_ref03_Meet_p15 : SCode := (.region false [⟨some 72, .mv (.t 6), none, false⟩,
  ⟨some 73, .mv (.t 7), none, false⟩,
  ⟨some 74, .build [(.int .i64 0), (.int .i64 0)] [(0, 1, (.t 72)), (1, 1, (.t 73))], none, false⟩,
  ⟨some 75, .faddr 0 (.t 8), none, false⟩,
  ⟨some 76, .load none (.t 75), none, false⟩,
  ⟨some 77, .mv (.t 6), none, false⟩,
  ⟨some 78, .bin .sub (.t 76) (.t 77), none, false⟩,
  ⟨some 79, .bin .add (.t 78) (.v (.int .i64 1)), none, false⟩,
  ⟨some 80, .faddr 1 (.t 8), none, false⟩,
  ⟨some 81, .load none (.t 80), none, false⟩,
  ⟨some 82, .mv (.t 7), none, false⟩,
  ⟨some 83, .bin .sub (.t 81) (.t 82), none, false⟩,
  ⟨some 84, .bin .add (.t 83) (.v (.int .i64 1)), none, false⟩,
  ⟨some 85, .build [(.int .i64 0), (.int .i64 0), (.int .i64 0), (.int .i64 0)] [(0, 2, (.t 74)), (2, 1, (.t 79)), (3, 1, (.t 84))], none, false⟩,
  ⟨none, .store 4 [] (.t 4) (.t 85), none, false⟩,
  ⟨some 5, .mv (.v (.bool true)), none, false⟩])
def s_ref03_Meet_p16 : SCode := (.seq (.kp [4, 6, 7, 8] (.seq (.kp [4, 6, 7, 8, 9, 57] s_ref03_Meet_p11) (.cond (.t 57) s_ref03_Meet_p12 .skip))) (.seq (.kp [4, 6, 7, 8] (.seq (.kp [4, 6, 7, 8, 70] s_ref03_Meet_p13) (.cond (.t 70) (.seq s_ref03_Meet_p14 .ret) .skip))) (.seq (.kp [4, 5] s_ref03_Meet_p15) .ret)))
def s_ref03_Meet_p17 : SCode := (.seq (.kp [2, 3, 4, 6, 7] (.seq (.kp [2, 3, 4, 6, 7, 37] s_ref03_Meet_p6) (.cond (.t 37) s_ref03_Meet_p7 .skip))) (.seq (.kp [4, 6, 7, 8, 9] s_ref03_Meet_p8) (.seq (.kp [4, 6, 7, 8, 9] (.seq (.kp [4, 6, 7, 8, 9, 49] s_ref03_Meet_p9) (.cond (.t 49) s_ref03_Meet_p10 .skip))) s_ref03_Meet_p16)))
def s_ref03_Meet_p18 : SCode := (.seq (.kp [2, 3, 4] (.seq (.kp [2, 3, 4, 17] s_ref03_Meet_p1) (.cond (.t 17) (.seq s_ref03_Meet_p2 .ret) .skip))) (.seq (.kp [2, 3, 4, 6, 7] s_ref03_Meet_p3) (.seq (.kp [2, 3, 4, 6, 7] (.seq (.kp [2, 3, 4, 6, 7, 29] s_ref03_Meet_p4) (.cond (.t 29) s_ref03_Meet_p5 .skip))) s_ref03_Meet_p17)))
def s_ref03_Meet : SFn := ⟨2, [.cell 4 (some 4), .t 5], (.seq s_ref03_Meet_p0 s_ref03_Meet_p18)⟩
def s_ref04_share_p0 : SCode := (.region false [⟨some 8, .load (some 4) (.t 2), none, false⟩,
  ⟨some 9, .load (some 4) (.t 3), none, false⟩,
  ⟨some 10, .call f_ref03_Meet [(.t 8), (.t 9)], none, false⟩,
  ⟨some 7, .mv (.t 10), none, false⟩,
  ⟨some 11, .ext (.t 7) 0, none, false⟩,
  ⟨some 12, .ext (.t 7) 1, none, false⟩,
  ⟨some 5, .alloc true [(.int .i64 0), (.int .i64 0), (.int .i64 0), (.int .i64 0)], none, false⟩,
  ⟨none, .store 4 [] (.t 5) (.t 11), none, false⟩,
  ⟨some 6, .mv (.t 12), none, false⟩])
def s_ref04_share_p1 : SCode := (.seq (.region false [⟨some 2, .box true 4 (.t 0), none, false⟩,
  ⟨some 3, .box true 4 (.t 1), none, false⟩,
  ⟨some 4, .mv (.v (.bool false)), none, false⟩]) (.seq (.kp [6] s_ref04_share_p0) (.seq (.region false [⟨some 13, .mv (.t 6), none, false⟩,
  ⟨some 4, .mv (.t 13), none, false⟩]) .ret)))
def s_ref04_share : SFn := ⟨2, [.t 4], s_ref04_share_p1⟩
def s_ref04_Check_p0 : SCode := (.region false [⟨some 6, .faddr 0 (.t 1), none, false⟩,
  ⟨some 7, .load none (.t 6), none, false⟩,
  ⟨some 8, .bin .lss (.t 7) (.v (.int .i64 1)), none, false⟩,
  ⟨some 9, .mv (.t 8), none, false⟩,
  ⟨some 10, .faddr 0 (.t 1), (some (9, false)), false⟩,
  ⟨some 11, .load none (.t 10), (some (9, false)), false⟩,
  ⟨some 12, .bin .gtr (.t 11) (.v (.int .i64 128)), (some (9, false)), false⟩,
  ⟨some 13, .pick (.t 9) (.v (.bool true)) (.t 12), none, false⟩,
  ⟨some 14, .mv (.t 13), none, false⟩,
  ⟨some 15, .faddr 1 (.t 1), (some (14, false)), false⟩,
  ⟨some 16, .load none (.t 15), (some (14, false)), false⟩,
  ⟨some 17, .bin .lss (.t 16) (.v (.int .i64 1)), (some (14, false)), false⟩,
  ⟨some 18, .pick (.t 14) (.v (.bool true)) (.t 17), none, false⟩,
  ⟨some 19, .mv (.t 18), none, false⟩,
  ⟨some 20, .faddr 1 (.t 1), (some (19, false)), false⟩,
  ⟨some 21, .load none (.t 20), (some (19, false)), false⟩,
  ⟨some 22, .bin .gtr (.t 21) (.v (.int .i64 128)), (some (19, false)), false⟩,
  ⟨some 23, .pick (.t 19) (.v (.bool true)) (.t 22), none, false⟩,
  ⟨some 24, .mv (.t 23), none, false⟩,
  ⟨some 25, .faddr 2 (.t 1), (some (24, false)), false⟩,
  ⟨some 26, .load none (.t 25), (some (24, false)), false⟩,
  ⟨some 27, .len (.t 26), (some (24, false)), false⟩,
  ⟨some 28, .faddr 0 (.t 1), (some (24, false)), false⟩,
  ⟨some 29, .load none (.t 28), (some (24, false)), false⟩,
  ⟨some 30, .faddr 1 (.t 1), (some (24, false)), false⟩,
  ⟨some 31, .load none (.t 30), (some (24, false)), false⟩,
  ⟨some 32, .bin .mul (.t 29) (.t 31), (some (24, false)), false⟩,
  ⟨some 33, .bin .neq (.t 27) (.t 32), (some (24, false)), false⟩,
  ⟨some 34, .pick (.t 24) (.v (.bool true)) (.t 33), none, false⟩,
  ⟨some 35, .mv (.t 34), none, false⟩,
  ⟨some 36, .faddr 3 (.t 1), (some (35, false)), false⟩,
  ⟨some 37, .load none (.t 36), (some (35, false)), false⟩,
  ⟨some 38, .len (.t 37), (some (35, false)), false⟩,
  ⟨some 39, .bin .gtr (.t 38) (.v (.int .i64 256)), (some (35, false)), false⟩,
  ⟨some 40, .pick (.t 35) (.v (.bool true)) (.t 39), none, false⟩])
def s_ref04_Check_p1 : SCode := (.region false [⟨some 41, .mv (.t 3), none, false⟩,
  ⟨some 42, .faddr 2 (.t 1), none, false⟩,
  ⟨some 43, .load none (.t 42), none, false⟩,
  ⟨some 44, .len (.t 43), none, false⟩,
  ⟨some 45, .bin .lss (.t 41) (.t 44), none, false⟩])
def s_ref04_Check_p2 : SCode := (.region false [⟨some 48, .faddr 2 (.t 1), none, false⟩,
  ⟨some 49, .load none (.t 48), none, false⟩,
  ⟨some 50, .mv (.t 3), none, false⟩,
  ⟨some 51, .iaddr 1 (.t 49) (.t 50), none, false⟩,
  ⟨some 52, .load none (.t 51), none, false⟩,
  ⟨some 53, .conv .i64 (.t 52), none, false⟩,
  ⟨some 54, .bin .geq (.t 53) (.v (.int .i64 4)), none, false⟩])
def s_ref04_Check_p3 : SCode := (.seq (.kp [1, 3] (.block 1 (.seq (.kp [1, 3, 54] s_ref04_Check_p2) (.cond (.t 54) (.seq (.region false [⟨some 2, .mv (.v (.int .i64 1)), none, false⟩]) .ret) .skip)))) (.region false [⟨some 46, .mv (.t 3), none, false⟩,
  ⟨some 47, .bin .add (.t 46) (.v (.int .i64 1)), none, false⟩,
  ⟨some 3, .mv (.t 47), none, false⟩]))
def s_ref04_Check_p4 : SCode := (.seq (.kp [1, 3] (.seq (.kp [1, 3, 45] s_ref04_Check_p1) (.cond (.t 45) .skip (.exit 0)))) s_ref04_Check_p3)
def s_ref04_Check_p5 : SCode := (.region false [⟨some 55, .mv (.t 4), none, false⟩,
  ⟨some 56, .faddr 3 (.t 1), none, false⟩,
  ⟨some 57, .load none (.t 56), none, false⟩,
  ⟨some 58, .len (.t 57), none, false⟩,
  ⟨some 59, .bin .lss (.t 55) (.t 58), none, false⟩])
def s_ref04_Check_p6 : SCode := (.region true [⟨some 62, .faddr 3 (.t 1), none, true⟩,
  ⟨some 63, .load none (.t 62), none, true⟩,
  ⟨some 64, .mv (.t 4), none, true⟩,
  ⟨some 65, .iaddr 5 (.t 63) (.t 64), none, true⟩,
  ⟨some 66, .load (some 5) (.t 65), none, true⟩,
  ⟨some 67, .faddr 0 (.t 1), none, true⟩,
  ⟨some 68, .load none (.t 67), none, true⟩,
  ⟨some 69, .faddr 1 (.t 1), none, true⟩,
  ⟨some 70, .load none (.t 69), none, true⟩,
  ⟨some 71, .build [(.int .i64 0), (.int .i64 0), (.int .i64 0), (.int .i64 0)] [(2, 1, (.t 68)), (3, 1, (.t 70))], none, true⟩,
  ⟨some 72, .call f_ref04_MayBe [(.t 66), (.t 71)], none, false⟩,
  ⟨some 73, .un .not (.t 72), none, false⟩])
def s_ref04_Check_p7 : SCode := (.seq (.region false [⟨some 74, .mv (.t 5), none, false⟩,
  ⟨some 75, .mv (.t 4), none, false⟩,
  ⟨some 76, .bin .lss (.t 74) (.t 75), none, false⟩]) (.cond (.t 76) .skip (.exit 4)))
def s_ref04_Check_p8 : SCode := (.region true [⟨some 79, .faddr 3 (.t 1), none, true⟩,
  ⟨some 80, .load none (.t 79), none, true⟩,
  ⟨some 81, .mv (.t 5), none, true⟩,
  ⟨some 82, .iaddr 5 (.t 80) (.t 81), none, true⟩,
  ⟨some 83, .faddr 0 (.t 82), none, true⟩,
  ⟨some 84, .load none (.t 83), none, true⟩,
  ⟨some 85, .faddr 3 (.t 1), none, true⟩,
  ⟨some 86, .load none (.t 85), none, true⟩,
  ⟨some 87, .mv (.t 4), none, true⟩,
  ⟨some 88, .iaddr 5 (.t 86) (.t 87), none, true⟩,
  ⟨some 89, .faddr 0 (.t 88), none, true⟩,
  ⟨some 90, .load none (.t 89), none, true⟩,
  ⟨some 91, .bin .geq (.t 84) (.t 90), none, false⟩,
  ⟨some 92, .mv (.t 91), none, false⟩,
  ⟨some 93, .faddr 3 (.t 1), (some (92, false)), true⟩,
  ⟨some 94, .load none (.t 93), (some (92, false)), true⟩,
  ⟨some 95, .mv (.t 5), (some (92, false)), true⟩,
  ⟨some 96, .iaddr 5 (.t 94) (.t 95), (some (92, false)), true⟩,
  ⟨some 97, .faddr 1 (.t 96), (some (92, false)), true⟩,
  ⟨some 98, .load (some 4) (.t 97), (some (92, false)), true⟩,
  ⟨some 99, .faddr 3 (.t 1), (some (92, false)), true⟩,
  ⟨some 100, .load none (.t 99), (some (92, false)), true⟩,
  ⟨some 101, .mv (.t 4), (some (92, false)), true⟩,
  ⟨some 102, .iaddr 5 (.t 100) (.t 101), (some (92, false)), true⟩,
  ⟨some 103, .faddr 1 (.t 102), (some (92, false)), true⟩,
  ⟨some 104, .load (some 4) (.t 103), (some (92, false)), true⟩,
  ⟨some 105, .call f_ref04_share [(.t 98), (.t 104)], (some (92, false)), false⟩,
  ⟨some 106, .pick (.t 92) (.v (.bool true)) (.t 105), none, false⟩])
def s_ref04_Check_p9 : SCode := (.seq (.kp [1, 4, 5] (.block 5 (.seq (.kp [1, 4, 5, 106] s_ref04_Check_p8) (.cond (.t 106) (.seq (.region false [⟨some 2, .mv (.v (.int .i64 1)), none, false⟩]) .ret) .skip)))) (.region false [⟨some 77, .mv (.t 5), none, false⟩,
  ⟨some 78, .bin .add (.t 77) (.v (.int .i64 1)), none, false⟩,
  ⟨some 5, .mv (.t 78), none, false⟩]))
def s_ref04_Check_p10 : SCode := (.seq (.kp [1, 4, 5] s_ref04_Check_p7) s_ref04_Check_p9)
def s_ref04_Check_p11 : SCode := (.seq (.kp [1, 4] (.seq (.kp [1, 4, 73] s_ref04_Check_p6) (.cond (.t 73) (.seq (.region false [⟨some 2, .mv (.v (.int .i64 1)), none, false⟩]) .ret) .skip))) (.seq (.kp [1, 4, 5] (.region false [⟨some 5, .mv (.v (.int .i64 0)), none, false⟩])) (.block 4 (.loop (some [1, 4, 5]) s_ref04_Check_p10))))
def s_ref04_Check_p12 : SCode := (.seq (.kp [1, 4] (.block 3 s_ref04_Check_p11)) (.region false [⟨some 60, .mv (.t 4), none, false⟩,
  ⟨some 61, .bin .add (.t 60) (.v (.int .i64 1)), none, false⟩,
  ⟨some 4, .mv (.t 61), none, false⟩]))
def s_ref04_Check_p13 : SCode := (.seq (.kp [1, 4] (.seq (.kp [1, 4, 59] s_ref04_Check_p5) (.cond (.t 59) .skip (.exit 2)))) s_ref04_Check_p12)
def s_ref04_Check_p14 : SCode := (.seq (.kp [] (.seq (.kp [1, 4] (.region false [⟨some 4, .mv (.v (.int .i64 0)), none, false⟩])) (.block 2 (.loop (some [1, 4]) s_ref04_Check_p13)))) (.seq (.region false [⟨some 2, .mv (.v (.int .i64 0)), none, false⟩]) .ret))
def s_ref04_Check_p15 : SCode := (.seq (.kp [1] (.seq (.kp [1, 40] s_ref04_Check_p0) (.cond (.t 40) (.seq (.region false [⟨some 2, .mv (.v (.int .i64 1)), none, false⟩]) .ret) .skip))) (.seq (.kp [1] (.seq (.kp [1, 3] (.region false [⟨some 3, .mv (.v (.int .i64 0)), none, false⟩])) (.block 0 (.loop (some [1, 3]) s_ref04_Check_p4)))) s_ref04_Check_p14))
def s_ref04_Check : SFn := ⟨1, [.t 2], (.seq (.region false [⟨some 1, .box true 4 (.t 0), none, false⟩,
  ⟨some 2, .mv (.v (.int .i64 0)), none, false⟩]) s_ref04_Check_p15)⟩
def s_ref04_New_p0 : SCode := (.seq (.region false [⟨some 5, .load (some 4) (.t 1), none, false⟩,
  ⟨some 6, .call f_ref04_Check [(.t 5)], none, false⟩,
  ⟨some 7, .bin .neq (.t 6) (.v (.int .i64 0)), none, false⟩]) (.cond (.t 7) (.seq (.region false [⟨some 2, .mv (.v .nilp), none, false⟩,
  ⟨some 3, .mv (.v (.int .i64 1)), none, false⟩]) .ret) .skip))
def s_ref04_New_p1 : SCode := (.region false [⟨some 8, .faddr 0 (.t 1), none, false⟩,
  ⟨some 9, .load none (.t 8), none, false⟩,
  ⟨some 10, .faddr 1 (.t 1), none, false⟩,
  ⟨some 11, .load none (.t 10), none, false⟩,
  ⟨some 12, .build [(.int .i64 0), (.int .i64 0), .nils, .nils, .nils] [(0, 1, (.t 9)), (1, 1, (.t 11))], none, false⟩,
  ⟨some 13, .box false 5 (.t 12), none, false⟩,
  ⟨some 4, .mv (.t 13), none, false⟩])
def s_ref04_New_p2 : SCode := (.region true [⟨some 14, .mv (.t 4), none, true⟩,
  ⟨some 15, .mv (.t 4), none, true⟩,
  ⟨some 16, .nilck (.t 15), none, true⟩,
  ⟨some 17, .faddr 2 (.t 16), none, true⟩,
  ⟨some 18, .load none (.t 17), none, true⟩,
  ⟨some 19, .faddr 2 (.t 1), none, true⟩,
  ⟨some 20, .load none (.t 19), none, true⟩,
  ⟨some 21, .append 1 1 [(.int .u8 0)] [] (.t 18) (.t 20), none, false⟩,
  ⟨some 22, .nilck (.t 14), none, false⟩,
  ⟨some 23, .faddr 2 (.t 22), none, false⟩,
  ⟨none, .store 1 [] (.t 23) (.t 21), none, false⟩])
def s_ref04_New_p3 : SCode := (.region true [⟨some 24, .mv (.t 4), none, true⟩,
  ⟨some 25, .mv (.t 4), none, true⟩,
  ⟨some 26, .nilck (.t 25), none, true⟩,
  ⟨some 27, .faddr 3 (.t 26), none, true⟩,
  ⟨some 28, .load none (.t 27), none, true⟩,
  ⟨some 29, .faddr 3 (.t 1), none, true⟩,
  ⟨some 30, .load none (.t 29), none, true⟩,
  ⟨some 31, .append 5 40 [(.int .i64 0), (.int .i64 0), (.int .i64 0), (.int .i64 0), (.int .i64 0)] [] (.t 28) (.t 30), none, false⟩,
  ⟨some 32, .nilck (.t 24), none, false⟩,
  ⟨some 33, .faddr 3 (.t 32), none, false⟩,
  ⟨none, .store 1 [] (.t 33) (.t 31), none, false⟩])
def s_ref04_New_p4 : SCode := (.seq (.kp [1, 4] s_ref04_New_p2) (.seq (.kp [4] s_ref04_New_p3) (.seq (.region false [⟨some 34, .mv (.t 4), none, false⟩,
  ⟨some 2, .mv (.t 34), none, false⟩,
  ⟨some 3, .mv (.v (.int .i64 0)), none, false⟩]) .ret)))
def s_ref04_New_p5 : SCode := (.seq (.region false [⟨some 1, .box true 4 (.t 0), none, false⟩,
  ⟨some 2, .mv (.v .nilp), none, false⟩,
  ⟨some 3, .mv (.v (.int .i64 0)), none, false⟩]) (.seq (.kp [1] s_ref04_New_p0) (.seq (.kp [1, 4] s_ref04_New_p1) s_ref04_New_p4)))
def s_ref04_New : SFn := ⟨1, [.t 2, .t 3], s_ref04_New_p5⟩
def s_law06_Both_p0 : SCode := (.region false [⟨some 1, .box true 4 (.t 0), none, false⟩,
  ⟨some 2, .mv (.v .nilp), none, false⟩,
  ⟨some 3, .mv (.v .nilp), none, false⟩,
  ⟨some 4, .mv (.v (.bool false)), none, false⟩])
def s_law06_Both_p1 : SCode := (.region false [⟨some 10, .load (some 4) (.t 1), none, false⟩,
  ⟨some 11, .call f_grid_New [(.t 10)], none, false⟩,
  ⟨some 9, .mv (.t 11), none, false⟩,
  ⟨some 12, .ext (.t 9) 0, none, false⟩,
  ⟨some 13, .ext (.t 9) 1, none, false⟩,
  ⟨some 5, .mv (.t 12), none, false⟩,
  ⟨some 6, .mv (.t 13), none, false⟩])
def s_law06_Both_p2 : SCode := (.region false [⟨some 15, .load (some 4) (.t 1), none, false⟩,
  ⟨some 16, .call f_ref04_New [(.t 15)], none, false⟩,
  ⟨some 14, .mv (.t 16), none, false⟩,
  ⟨some 17, .ext (.t 14) 0, none, false⟩,
  ⟨some 18, .ext (.t 14) 1, none, false⟩,
  ⟨some 7, .mv (.t 17), none, false⟩,
  ⟨some 8, .mv (.t 18), none, false⟩])
def s_law06_Both_p3 : SCode := (.region false [⟨some 19, .mv (.t 5), none, false⟩,
  ⟨some 20, .mv (.t 7), none, false⟩,
  ⟨some 21, .mv (.t 6), none, false⟩,
  ⟨some 22, .bin .eql (.t 21) (.v (.int .i64 0)), none, false⟩,
  ⟨some 23, .mv (.t 22), none, false⟩,
  ⟨some 24, .mv (.t 8), (some (23, true)), false⟩,
  ⟨some 25, .bin .eql (.t 24) (.v (.int .i64 0)), (some (23, true)), false⟩,
  ⟨some 26, .pick (.t 23) (.t 25) (.v (.bool false)), none, false⟩,
  ⟨some 2, .mv (.t 19), none, false⟩,
  ⟨some 3, .mv (.t 20), none, false⟩,
  ⟨some 4, .mv (.t 26), none, false⟩])
def s_law06_Both : SFn := ⟨1, [.t 2, .t 3, .t 4], (.seq s_law06_Both_p0 (.seq (.kp [1, 5, 6] s_law06_Both_p1) (.seq (.kp [5, 6, 7, 8] s_law06_Both_p2) (.seq (.kp [2, 3, 4] s_law06_Both_p3) .ret))))⟩
def s_grid_World_Raze_p0 : SCode := (.region false [⟨some 2, .box true 1 (.t 0), none, false⟩,
  ⟨some 4, .alloc true [(.int .i64 0), (.int .i64 0), (.int .i64 0), (.int .i64 0)], none, false⟩,
  ⟨some 5, .mv (.v (.int .i64 0)), none, false⟩])
def s_grid_World_Raze_p1 : SCode := (.region false [⟨some 12, .build [(.int .i64 0), (.int .i64 0), (.int .i64 0), (.int .i64 0)] [], none, false⟩,
  ⟨none, .store 4 [] (.t 4) (.t 12), none, false⟩,
  ⟨some 5, .mv (.v (.int .i64 1)), none, false⟩])
def s_grid_World_Raze_p2 : SCode := (.seq (.region false [⟨some 9, .load none (.t 2), none, false⟩,
  ⟨some 10, .call f_grid_World_is [(.t 9)], none, false⟩,
  ⟨some 11, .un .not (.t 10), none, false⟩]) (.cond (.t 11) (.seq s_grid_World_Raze_p1 .ret) .skip))
def s_grid_World_Raze_p3 : SCode := (.region false [⟨some 14, .load none (.t 2), none, false⟩,
  ⟨some 15, .nilck (.t 14), none, false⟩,
  ⟨some 16, .faddr 3 (.t 15), none, false⟩,
  ⟨some 17, .load none (.t 16), none, false⟩,
  ⟨some 18, .mv (.t 1), none, false⟩,
  ⟨some 19, .lookup false [.int] (.agg [(.int .i64 0), (.int .i64 0), (.int .i64 0), (.int .i64 0)]) true (.t 17) (.t 18), none, false⟩,
  ⟨some 13, .mv (.t 19), none, false⟩,
  ⟨some 20, .ext (.t 13) 0, none, false⟩,
  ⟨some 21, .ext (.t 13) 1, none, false⟩,
  ⟨some 6, .alloc true [(.int .i64 0), (.int .i64 0), (.int .i64 0), (.int .i64 0)], none, false⟩,
  ⟨none, .store 4 [] (.t 6) (.t 20), none, false⟩,
  ⟨some 7, .mv (.t 21), none, false⟩])
def s_grid_World_Raze_p4 : SCode := (.region false [⟨some 24, .build [(.int .i64 0), (.int .i64 0), (.int .i64 0), (.int .i64 0)] [], none, false⟩,
  ⟨none, .store 4 [] (.t 4) (.t 24), none, false⟩,
  ⟨some 5, .mv (.v (.int .i64 4)), none, false⟩])
def s_grid_World_Raze_p5 : SCode := (.region false [⟨some 25, .load none (.t 2), none, false⟩,
  ⟨some 26, .nilck (.t 25), none, false⟩,
  ⟨some 27, .faddr 3 (.t 26), none, false⟩,
  ⟨some 28, .load none (.t 27), none, false⟩,
  ⟨some 29, .mv (.t 1), none, false⟩,
  ⟨none, .delete false [.int] (.t 28) (.t 29), none, false⟩])
def s_grid_World_Raze_p6 : SCode := (.region false [⟨some 8, .alloc true [(.int .i64 0), (.int .i64 0)], none, false⟩,
  ⟨none, .store 2 [] (.t 8) (.t 32), none, false⟩])
def s_grid_World_Raze_p7 : SCode := (.region true [⟨some 33, .load none (.t 2), none, true⟩,
  ⟨some 34, .nilck (.t 33), none, true⟩,
  ⟨some 35, .faddr 4 (.t 34), none, true⟩,
  ⟨some 36, .load none (.t 35), none, true⟩,
  ⟨some 37, .load (some 2) (.t 8), none, true⟩,
  ⟨none, .delete true [.int, .int] (.t 36) (.t 37), none, false⟩])
def s_grid_World_Raze_p8 : SCode := (.block 1 s_grid_World_Raze_p7)
def s_grid_World_Raze_p9 : SCode := (.seq (.kp [2, 4, 6, 31] (.region false [⟨some 30, .load (some 4) (.t 6), none, false⟩,
  ⟨some 31, .call f_cell_Cells [(.t 30)], none, false⟩])) (.block 0 (.rangef (.t 31) [32] s_grid_World_Raze_p6 s_grid_World_Raze_p8)))
def s_grid_World_Raze_p10 : SCode := (.region true [⟨some 38, .load none (.t 2), none, true⟩,
  ⟨some 39, .load none (.t 2), none, true⟩,
  ⟨some 40, .nilck (.t 39), none, true⟩,
  ⟨some 41, .faddr 5 (.t 40), none, true⟩,
  ⟨some 42, .load none (.t 41), none, true⟩,
  ⟨some 43, .load (some 4) (.t 6), none, true⟩,
  ⟨some 44, .bslice [(.int .i64 0), (.int .i64 0), (.int .i64 0), (.int .i64 0)] 1 4 [(0, 4, (.t 43))], none, true⟩,
  ⟨some 45, .append 4 32 [(.int .i64 0), (.int .i64 0), (.int .i64 0), (.int .i64 0)] [(.t 2)] (.t 42) (.t 44), none, false⟩,
  ⟨some 46, .nilck (.t 38), none, false⟩,
  ⟨some 47, .faddr 5 (.t 46), none, false⟩,
  ⟨none, .store 1 [] (.t 47) (.t 45), none, false⟩])
def s_grid_World_Raze_p11 : SCode := (.seq (.kp [4, 6] s_grid_World_Raze_p10) (.seq (.region false [⟨some 48, .load (some 4) (.t 6), none, false⟩,
  ⟨none, .store 4 [] (.t 4) (.t 48), none, false⟩,
  ⟨some 5, .mv (.v (.int .i64 0)), none, false⟩]) .ret))
def s_grid_World_Raze_p12 : SCode := (.seq (.kp [1, 2, 4, 6] (.seq (.region false [⟨some 22, .mv (.t 7), none, false⟩,
  ⟨some 23, .un .not (.t 22), none, false⟩]) (.cond (.t 23) (.seq s_grid_World_Raze_p4 .ret) .skip))) (.seq (.kp [2, 4, 6] s_grid_World_Raze_p5) (.seq (.kp [2, 4, 6] s_grid_World_Raze_p9) s_grid_World_Raze_p11)))
def s_grid_World_Raze : SFn := ⟨2, [.cell 4 (some 4), .t 5], (.seq s_grid_World_Raze_p0 (.seq (.kp [1, 2, 4] s_grid_World_Raze_p2) (.seq (.kp [1, 2, 4, 6, 7] s_grid_World_Raze_p3) s_grid_World_Raze_p12)))⟩
def s_ref04_All_p0 : SCode := (.region true [⟨some 3, .mv (.t 0), none, true⟩,
  ⟨some 4, .nilck (.t 3), none, true⟩,
  ⟨some 5, .faddr 0 (.t 4), none, true⟩,
  ⟨some 6, .load none (.t 5), none, true⟩,
  ⟨some 7, .mv (.t 0), none, true⟩,
  ⟨some 8, .nilck (.t 7), none, true⟩,
  ⟨some 9, .faddr 1 (.t 8), none, true⟩,
  ⟨some 10, .load none (.t 9), none, true⟩,
  ⟨some 11, .build [(.int .i64 0), (.int .i64 0), (.int .i64 0), (.int .i64 0)] [(2, 1, (.t 6)), (3, 1, (.t 10))], none, false⟩,
  ⟨none, .store 4 [] (.t 2) (.t 11), none, false⟩])
def s_ref04_All : SFn := ⟨1, [.cell 2 (some 4)], (.seq (.region false [⟨some 2, .alloc true [(.int .i64 0), (.int .i64 0), (.int .i64 0), (.int .i64 0)], none, false⟩]) (.seq (.kp [2] s_ref04_All_p0) .ret))⟩
def s_ref04_place_p0 : SCode := (.region false [⟨some 6, .mv (.t 5), none, false⟩,
  ⟨some 7, .mv (.t 0), none, false⟩,
  ⟨some 8, .nilck (.t 7), none, false⟩,
  ⟨some 9, .faddr 3 (.t 8), none, false⟩,
  ⟨some 10, .load none (.t 9), none, false⟩,
  ⟨some 11, .len (.t 10), none, false⟩,
  ⟨some 12, .bin .lss (.t 6) (.t 11), none, false⟩])
def s_ref04_place_p1 : SCode := (.region false [⟨some 15, .mv (.t 0), none, false⟩,
  ⟨some 16, .nilck (.t 15), none, false⟩,
  ⟨some 17, .faddr 3 (.t 16), none, false⟩,
  ⟨some 18, .load none (.t 17), none, false⟩,
  ⟨some 19, .mv (.t 5), none, false⟩,
  ⟨some 20, .iaddr 5 (.t 18) (.t 19), none, false⟩,
  ⟨some 21, .faddr 0 (.t 20), none, false⟩,
  ⟨some 22, .load none (.t 21), none, false⟩,
  ⟨some 23, .mv (.t 1), none, false⟩,
  ⟨some 24, .bin .eql (.t 22) (.t 23), none, false⟩])
def s_ref04_place_p2 : SCode := (.kp [0, 1, 5] (.block 1 (.seq (.kp [0, 1, 5, 24] s_ref04_place_p1) (.cond (.t 24) (.seq (.region false [⟨some 25, .mv (.t 5), none, false⟩,
  ⟨some 4, .mv (.t 25), none, false⟩]) .ret) .skip))))
def s_ref04_place_p3 : SCode := (.seq (.kp [0, 1, 5] (.seq (.kp [0, 1, 5, 12] s_ref04_place_p0) (.cond (.t 12) .skip (.exit 0)))) (.seq s_ref04_place_p2 (.region false [⟨some 13, .mv (.t 5), none, false⟩,
  ⟨some 14, .bin .add (.t 13) (.v (.int .i64 1)), none, false⟩,
  ⟨some 5, .mv (.t 14), none, false⟩])))
def s_ref04_place_p4 : SCode := (.seq (.kp [] (.seq (.kp [0, 1, 5] (.region false [⟨some 5, .mv (.v (.int .i64 0)), none, false⟩])) (.block 0 (.loop (some [0, 1, 5]) s_ref04_place_p3)))) (.seq (.region false [⟨some 4, .mv (.v (.int .i64 (-1))), none, false⟩]) .ret))
def s_ref04_place : SFn := ⟨2, [.t 4], (.seq (.region false [⟨some 4, .mv (.v (.int .i64 0)), none, false⟩]) s_ref04_place_p4)⟩
def s_ref04_May_p0 : SCode := (.region true [⟨some 7, .load (some 5) (.t 3), none, true⟩,
  ⟨some 8, .mv (.t 0), none, true⟩,
  ⟨some 9, .call f_ref04_All [(.t 8)], none, true⟩,
  ⟨some 10, .call f_ref04_MayBe [(.t 7), (.t 9)], none, false⟩,
  ⟨some 11, .un .not (.t 10), none, false⟩,
  ⟨some 6, .mv (.t 11), none, false⟩])
def s_ref04_May_p1 : SCode := (.region false [⟨some 13, .mv (.t 0), none, false⟩,
  ⟨some 14, .faddr 0 (.t 3), none, false⟩,
  ⟨some 15, .load none (.t 14), none, false⟩,
  ⟨some 16, .call f_ref04_place [(.t 13), (.t 15)], none, false⟩,
  ⟨some 17, .bin .geq (.t 16) (.v (.int .i64 0)), none, false⟩,
  ⟨some 12, .mv (.t 17), none, false⟩])
def s_ref04_May_p2 : SCode := (.region false [⟨some 19, .mv (.t 0), none, false⟩,
  ⟨some 20, .nilck (.t 19), none, false⟩,
  ⟨some 21, .faddr 3 (.t 20), none, false⟩,
  ⟨some 22, .load none (.t 21), none, false⟩,
  ⟨some 23, .len (.t 22), none, false⟩,
  ⟨some 24, .bin .geq (.t 23) (.v (.int .i64 256)), none, false⟩,
  ⟨some 18, .mv (.t 24), none, false⟩])
def s_ref04_May_p3 : SCode := (.cond (.t 12) (.seq (.region false [⟨some 4, .mv (.v (.int .i64 8)), none, false⟩]) .ret) (.seq (.kp [0, 3, 18] s_ref04_May_p2) (.cond (.t 18) (.seq (.region false [⟨some 4, .mv (.v (.int .i64 2)), none, false⟩]) .ret) .skip)))
def s_ref04_May_p4 : SCode := (.kp [0, 3] (.block 0 (.seq (.kp [0, 3, 6] s_ref04_May_p0) (.cond (.t 6) (.seq (.region false [⟨some 4, .mv (.v (.int .i64 1)), none, false⟩]) .ret) (.seq (.kp [0, 3, 12] s_ref04_May_p1) s_ref04_May_p3)))))
def s_ref04_May_p5 : SCode := (.region false [⟨some 25, .mv (.t 5), none, false⟩,
  ⟨some 26, .mv (.t 0), none, false⟩,
  ⟨some 27, .nilck (.t 26), none, false⟩,
  ⟨some 28, .faddr 3 (.t 27), none, false⟩,
  ⟨some 29, .load none (.t 28), none, false⟩,
  ⟨some 30, .len (.t 29), none, false⟩,
  ⟨some 31, .bin .lss (.t 25) (.t 30), none, false⟩])
def s_ref04_May_p6 : SCode := (.region true [⟨some 34, .mv (.t 0), none, true⟩,
  ⟨some 35, .nilck (.t 34), none, true⟩,
  ⟨some 36, .faddr 3 (.t 35), none, true⟩,
  ⟨some 37, .load none (.t 36), none, true⟩,
  ⟨some 38, .mv (.t 5), none, true⟩,
  ⟨some 39, .iaddr 5 (.t 37) (.t 38), none, true⟩,
  ⟨some 40, .faddr 1 (.t 39), none, true⟩,
  ⟨some 41, .load (some 4) (.t 40), none, true⟩,
  ⟨some 42, .faddr 1 (.t 3), none, true⟩,
  ⟨some 43, .load (some 4) (.t 42), none, true⟩,
  ⟨some 44, .call f_ref04_share [(.t 41), (.t 43)], none, false⟩])
def s_ref04_May_p7 : SCode := (.seq (.kp [0, 3, 5] (.block 2 (.seq (.kp [0, 3, 5, 44] s_ref04_May_p6) (.cond (.t 44) (.seq (.region false [⟨some 4, .mv (.v (.int .i64 6)), none, false⟩]) .ret) .skip)))) (.region false [⟨some 32, .mv (.t 5), none, false⟩,
  ⟨some 33, .bin .add (.t 32) (.v (.int .i64 1)), none, false⟩,
  ⟨some 5, .mv (.t 33), none, false⟩]))
def s_ref04_May_p8 : SCode := (.seq (.kp [0, 3, 5] (.seq (.kp [0, 3, 5, 31] s_ref04_May_p5) (.cond (.t 31) .skip (.exit 1)))) s_ref04_May_p7)
def s_ref04_May_p9 : SCode := (.seq (.kp [] (.seq (.kp [0, 3, 5] (.region false [⟨some 5, .mv (.v (.int .i64 0)), none, false⟩])) (.block 1 (.loop (some [0, 3, 5]) s_ref04_May_p8)))) (.seq (.region false [⟨some 4, .mv (.v (.int .i64 0)), none, false⟩]) .ret))
def s_ref04_May : SFn := ⟨2, [.t 4], (.seq (.region false [⟨some 3, .box true 5 (.t 1), none, false⟩,
  ⟨some 4, .mv (.v (.int .i64 0)), none, false⟩]) (.seq s_ref04_May_p4 s_ref04_May_p9))⟩
def s_ref04_Place_p0 : SCode := (.region false [⟨some 7, .mv (.t 0), none, false⟩,
  ⟨some 8, .load (some 5) (.t 3), none, false⟩,
  ⟨some 9, .call f_ref04_May [(.t 7), (.t 8)], none, false⟩,
  ⟨some 5, .mv (.t 9), none, false⟩])
def s_ref04_Place_p1 : SCode := (.seq (.region false [⟨some 10, .mv (.t 5), none, false⟩,
  ⟨some 11, .bin .neq (.t 10) (.v (.int .i64 0)), none, false⟩]) (.cond (.t 11) (.seq (.region false [⟨some 12, .mv (.t 5), none, false⟩,
  ⟨some 4, .mv (.t 12), none, false⟩]) .ret) .skip))
def s_ref04_Place_p2 : SCode := (.region true [⟨some 13, .mv (.t 0), none, true⟩,
  ⟨some 14, .mv (.t 0), none, true⟩,
  ⟨some 15, .nilck (.t 14), none, true⟩,
  ⟨some 16, .faddr 3 (.t 15), none, true⟩,
  ⟨some 17, .load none (.t 16), none, true⟩,
  ⟨some 18, .load (some 5) (.t 3), none, true⟩,
  ⟨some 19, .bslice [(.int .i64 0), (.int .i64 0), (.int .i64 0), (.int .i64 0), (.int .i64 0)] 1 5 [(0, 5, (.t 18))], none, true⟩,
  ⟨some 20, .append 5 40 [(.int .i64 0), (.int .i64 0), (.int .i64 0), (.int .i64 0), (.int .i64 0)] [] (.t 17) (.t 19), none, false⟩,
  ⟨some 21, .nilck (.t 13), none, false⟩,
  ⟨some 22, .faddr 3 (.t 21), none, false⟩,
  ⟨none, .store 1 [] (.t 22) (.t 20), none, false⟩])
def s_ref04_Place_p3 : SCode := (.region false [⟨some 23, .mv (.t 0), none, false⟩,
  ⟨some 24, .nilck (.t 23), none, false⟩,
  ⟨some 25, .faddr 3 (.t 24), none, false⟩,
  ⟨some 26, .load none (.t 25), none, false⟩,
  ⟨some 27, .len (.t 26), none, false⟩,
  ⟨some 28, .bin .sub (.t 27) (.v (.int .i64 1)), none, false⟩,
  ⟨some 6, .mv (.t 28), none, false⟩])
def s_ref04_Place_p4 : SCode := (.region true [⟨some 29, .mv (.t 6), none, false⟩,
  ⟨some 30, .bin .gtr (.t 29) (.v (.int .i64 0)), none, false⟩,
  ⟨some 31, .mv (.t 30), none, false⟩,
  ⟨some 32, .mv (.t 0), (some (31, true)), true⟩,
  ⟨some 33, .nilck (.t 32), (some (31, true)), true⟩,
  ⟨some 34, .faddr 3 (.t 33), (some (31, true)), true⟩,
  ⟨some 35, .load none (.t 34), (some (31, true)), true⟩,
  ⟨some 36, .mv (.t 6), (some (31, true)), true⟩,
  ⟨some 37, .iaddr 5 (.t 35) (.t 36), (some (31, true)), true⟩,
  ⟨some 38, .faddr 0 (.t 37), (some (31, true)), true⟩,
  ⟨some 39, .load none (.t 38), (some (31, true)), true⟩,
  ⟨some 40, .mv (.t 0), (some (31, true)), true⟩,
  ⟨some 41, .nilck (.t 40), (some (31, true)), true⟩,
  ⟨some 42, .faddr 3 (.t 41), (some (31, true)), true⟩,
  ⟨some 43, .load none (.t 42), (some (31, true)), true⟩,
  ⟨some 44, .mv (.t 6), (some (31, true)), true⟩,
  ⟨some 45, .bin .sub (.t 44) (.v (.int .i64 1)), (some (31, true)), true⟩,
  ⟨some 46, .iaddr 5 (.t 43) (.t 45), (some (31, true)), true⟩,
  ⟨some 47, .faddr 0 (.t 46), (some (31, true)), true⟩,
  ⟨some 48, .load none (.t 47), (some (31, true)), true⟩,
  ⟨some 49, .bin .lss (.t 39) (.t 48), (some (31, true)), false⟩,
  ⟨some 50, .pick (.t 31) (.t 49) (.v (.bool false)), none, false⟩])
def s_ref04_Place_p5 : SCode := (.region true [⟨some 53, .mv (.t 0), none, true⟩,
  ⟨some 54, .nilck (.t 53), none, true⟩,
  ⟨some 55, .faddr 3 (.t 54), none, true⟩,
  ⟨some 56, .load none (.t 55), none, true⟩,
  ⟨some 57, .mv (.t 6), none, true⟩,
  ⟨some 58, .mv (.t 0), none, true⟩,
  ⟨some 59, .nilck (.t 58), none, true⟩,
  ⟨some 60, .faddr 3 (.t 59), none, true⟩,
  ⟨some 61, .load none (.t 60), none, true⟩,
  ⟨some 62, .mv (.t 6), none, true⟩,
  ⟨some 63, .bin .sub (.t 62) (.v (.int .i64 1)), none, true⟩,
  ⟨some 64, .mv (.t 0), none, true⟩,
  ⟨some 65, .nilck (.t 64), none, true⟩,
  ⟨some 66, .faddr 3 (.t 65), none, true⟩,
  ⟨some 67, .load none (.t 66), none, true⟩,
  ⟨some 68, .mv (.t 6), none, true⟩,
  ⟨some 69, .bin .sub (.t 68) (.v (.int .i64 1)), none, true⟩,
  ⟨some 70, .iaddr 5 (.t 67) (.t 69), none, true⟩,
  ⟨some 71, .load (some 5) (.t 70), none, true⟩,
  ⟨some 72, .mv (.t 0), none, true⟩,
  ⟨some 73, .nilck (.t 72), none, true⟩,
  ⟨some 74, .faddr 3 (.t 73), none, true⟩,
  ⟨some 75, .load none (.t 74), none, true⟩,
  ⟨some 76, .mv (.t 6), none, true⟩,
  ⟨some 77, .iaddr 5 (.t 75) (.t 76), none, true⟩,
  ⟨some 78, .load (some 5) (.t 77), none, true⟩,
  ⟨some 79, .iaddr 5 (.t 56) (.t 57), none, false⟩,
  ⟨none, .store 5 [] (.t 79) (.t 71), none, false⟩,
  ⟨some 80, .iaddr 5 (.t 61) (.t 63), none, false⟩,
  ⟨none, .store 5 [] (.t 80) (.t 78), none, false⟩])
def s_ref04_Place_p6 : SCode := (.seq (.kp [0, 3, 6] (.block 1 s_ref04_Place_p5)) (.region false [⟨some 51, .mv (.t 6), none, false⟩,
  ⟨some 52, .bin .sub (.t 51) (.v (.int .i64 1)), none, false⟩,
  ⟨some 6, .mv (.t 52), none, false⟩]))
def s_ref04_Place_p7 : SCode := (.seq (.kp [0, 3, 6] (.seq (.kp [0, 3, 6, 50] s_ref04_Place_p4) (.cond (.t 50) .skip (.exit 0)))) s_ref04_Place_p6)
def s_ref04_Place_p8 : SCode := (.region true [⟨some 81, .mv (.t 0), none, true⟩,
  ⟨some 82, .mv (.t 0), none, true⟩,
  ⟨some 83, .nilck (.t 82), none, true⟩,
  ⟨some 84, .faddr 4 (.t 83), none, true⟩,
  ⟨some 85, .load none (.t 84), none, true⟩,
  ⟨some 86, .faddr 1 (.t 3), none, true⟩,
  ⟨some 87, .load (some 4) (.t 86), none, true⟩,
  ⟨some 88, .bslice [(.int .i64 0), (.int .i64 0), (.int .i64 0), (.int .i64 0)] 1 4 [(0, 4, (.t 87))], none, true⟩,
  ⟨some 89, .append 4 32 [(.int .i64 0), (.int .i64 0), (.int .i64 0), (.int .i64 0)] [] (.t 85) (.t 88), none, false⟩,
  ⟨some 90, .nilck (.t 81), none, false⟩,
  ⟨some 91, .faddr 4 (.t 90), none, false⟩,
  ⟨none, .store 1 [] (.t 91) (.t 89), none, false⟩])
def s_ref04_Place_p9 : SCode := (.seq (.kp [0, 3] (.seq (.kp [0, 3, 6] s_ref04_Place_p3) (.block 0 (.loop (some [0, 3, 6]) s_ref04_Place_p7)))) (.seq (.kp [] s_ref04_Place_p8) (.seq (.region false [⟨some 4, .mv (.v (.int .i64 0)), none, false⟩]) .ret)))
def s_ref04_Place_p10 : SCode := (.seq (.region false [⟨some 3, .box true 5 (.t 1), none, false⟩,
  ⟨some 4, .mv (.v (.int .i64 0)), none, false⟩]) (.seq s_ref04_Place_p0 (.seq (.kp [0, 3] s_ref04_Place_p1) (.seq (.kp [0, 3] s_ref04_Place_p2) s_ref04_Place_p9))))
def s_ref04_Place : SFn := ⟨2, [.t 4], s_ref04_Place_p10⟩
def s_ref04_Raze_p0 : SCode := (.region false [⟨some 9, .mv (.t 0), none, false⟩,
  ⟨some 10, .mv (.t 1), none, false⟩,
  ⟨some 11, .call f_ref04_place [(.t 9), (.t 10)], none, false⟩,
  ⟨some 6, .mv (.t 11), none, false⟩])
def s_ref04_Raze_p1 : SCode := (.region false [⟨some 14, .build [(.int .i64 0), (.int .i64 0), (.int .i64 0), (.int .i64 0)] [], none, false⟩,
  ⟨none, .store 4 [] (.t 4) (.t 14), none, false⟩,
  ⟨some 5, .mv (.v (.int .i64 4)), none, false⟩])
def s_ref04_Raze_p2 : SCode := (.region false [⟨some 15, .mv (.t 0), none, false⟩,
  ⟨some 16, .nilck (.t 15), none, false⟩,
  ⟨some 17, .faddr 3 (.t 16), none, false⟩,
  ⟨some 18, .load none (.t 17), none, false⟩,
  ⟨some 19, .mv (.t 6), none, false⟩,
  ⟨some 20, .iaddr 5 (.t 18) (.t 19), none, false⟩,
  ⟨some 21, .faddr 1 (.t 20), none, false⟩,
  ⟨some 22, .load (some 4) (.t 21), none, false⟩,
  ⟨some 7, .alloc true [(.int .i64 0), (.int .i64 0), (.int .i64 0), (.int .i64 0)], none, false⟩,
  ⟨none, .store 4 [] (.t 7) (.t 22), none, false⟩])
def s_ref04_Raze_p3 : SCode := (.region false [⟨some 23, .mv (.t 8), none, false⟩,
  ⟨some 24, .mv (.t 0), none, false⟩,
  ⟨some 25, .nilck (.t 24), none, false⟩,
  ⟨some 26, .faddr 3 (.t 25), none, false⟩,
  ⟨some 27, .load none (.t 26), none, false⟩,
  ⟨some 28, .mv (.t 6), none, false⟩,
  ⟨some 29, .slice 5 (.t 27) none (some (.t 28)) none, none, false⟩,
  ⟨some 30, .append 5 40 [(.int .i64 0), (.int .i64 0), (.int .i64 0), (.int .i64 0), (.int .i64 0)] [] (.t 23) (.t 29), none, false⟩,
  ⟨some 8, .mv (.t 30), none, false⟩])
def s_ref04_Raze_p4 : SCode := (.region false [⟨some 31, .mv (.t 0), none, false⟩,
  ⟨some 32, .mv (.t 8), none, false⟩,
  ⟨some 33, .mv (.t 0), none, false⟩,
  ⟨some 34, .nilck (.t 33), none, false⟩,
  ⟨some 35, .faddr 3 (.t 34), none, false⟩,
  ⟨some 36, .load none (.t 35), none, false⟩,
  ⟨some 37, .mv (.t 6), none, false⟩,
  ⟨some 38, .bin .add (.t 37) (.v (.int .i64 1)), none, false⟩,
  ⟨some 39, .slice 5 (.t 36) (some (.t 38)) none none, none, false⟩,
  ⟨some 40, .append 5 40 [(.int .i64 0), (.int .i64 0), (.int .i64 0), (.int .i64 0), (.int .i64 0)] [] (.t 32) (.t 39), none, false⟩,
  ⟨some 41, .nilck (.t 31), none, false⟩,
  ⟨some 42, .faddr 3 (.t 41), none, false⟩,
  ⟨none, .store 1 [] (.t 42) (.t 40), none, false⟩])
def s_ref04_Raze_p5 : SCode := (.region true [⟨some 43, .mv (.t 0), none, true⟩,
  ⟨some 44, .mv (.t 0), none, true⟩,
  ⟨some 45, .nilck (.t 44), none, true⟩,
  ⟨some 46, .faddr 4 (.t 45), none, true⟩,
  ⟨some 47, .load none (.t 46), none, true⟩,
  ⟨some 48, .load (some 4) (.t 7), none, true⟩,
  ⟨some 49, .bslice [(.int .i64 0), (.int .i64 0), (.int .i64 0), (.int .i64 0)] 1 4 [(0, 4, (.t 48))], none, true⟩,
  ⟨some 50, .append 4 32 [(.int .i64 0), (.int .i64 0), (.int .i64 0), (.int .i64 0)] [] (.t 47) (.t 49), none, false⟩,
  ⟨some 51, .nilck (.t 43), none, false⟩,
  ⟨some 52, .faddr 4 (.t 51), none, false⟩,
  ⟨none, .store 1 [] (.t 52) (.t 50), none, false⟩])
def s_ref04_Raze_p6 : SCode := (.seq (.kp [4, 7] s_ref04_Raze_p5) (.seq (.region false [⟨some 53, .load (some 4) (.t 7), none, false⟩,
  ⟨none, .store 4 [] (.t 4) (.t 53), none, false⟩,
  ⟨some 5, .mv (.v (.int .i64 0)), none, false⟩]) .ret))
def s_ref04_Raze_p7 : SCode := (.seq (.kp [0, 4, 6] (.seq (.region false [⟨some 12, .mv (.t 6), none, false⟩,
  ⟨some 13, .bin .lss (.t 12) (.v (.int .i64 0)), none, false⟩]) (.cond (.t 13) (.seq s_ref04_Raze_p1 .ret) .skip))) (.seq (.kp [0, 4, 6, 7] s_ref04_Raze_p2) (.seq (.region false [⟨some 8, .mv (.v .nils), none, false⟩]) (.seq (.kp [0, 4, 6, 7, 8] s_ref04_Raze_p3) (.seq (.kp [0, 4, 7] s_ref04_Raze_p4) s_ref04_Raze_p6)))))
def s_ref04_Raze_p8 : SCode := (.seq (.region false [⟨some 4, .alloc true [(.int .i64 0), (.int .i64 0), (.int .i64 0), (.int .i64 0)], none, false⟩,
  ⟨some 5, .mv (.v (.int .i64 0)), none, false⟩]) (.seq s_ref04_Raze_p0 s_ref04_Raze_p7))
def s_ref04_Raze : SFn := ⟨2, [.cell 4 (some 4), .t 5], s_ref04_Raze_p8⟩
def s_law07_Does_p0 : SCode := (.region false [⟨some 8, .mv (.t 0), none, false⟩,
  ⟨some 9, .faddr 1 (.t 5), none, false⟩,
  ⟨some 10, .faddr 0 (.t 9), none, false⟩,
  ⟨some 11, .load none (.t 10), none, false⟩,
  ⟨some 12, .call f_grid_World_Raze [(.t 8), (.t 11)], none, false⟩])
def s_law07_Does_p1 : SCode := (.region false [⟨some 13, .mv (.t 1), none, false⟩,
  ⟨some 14, .faddr 1 (.t 5), none, false⟩,
  ⟨some 15, .faddr 0 (.t 14), none, false⟩,
  ⟨some 16, .load none (.t 15), none, false⟩,
  ⟨some 17, .call f_ref04_Raze [(.t 13), (.t 16)], none, false⟩])
def s_law07_Does_p2 : SCode := (.seq (.region false [⟨some 6, .faddr 0 (.t 5), none, false⟩,
  ⟨some 7, .load none (.t 6), none, false⟩]) (.cond (.t 7) (.seq (.kp [1, 5] s_law07_Does_p0) (.seq (.kp [] s_law07_Does_p1) .ret)) .skip))
def s_law07_Does_p3 : SCode := (.region false [⟨some 18, .mv (.t 0), none, false⟩,
  ⟨some 19, .faddr 1 (.t 5), none, false⟩,
  ⟨some 20, .load (some 5) (.t 19), none, false⟩,
  ⟨some 21, .call f_grid_World_Place [(.t 18), (.t 20)], none, false⟩])
def s_law07_Does_p4 : SCode := (.region false [⟨some 22, .mv (.t 1), none, false⟩,
  ⟨some 23, .faddr 1 (.t 5), none, false⟩,
  ⟨some 24, .load (some 5) (.t 23), none, false⟩,
  ⟨some 25, .call f_ref04_Place [(.t 22), (.t 24)], none, false⟩])
def s_law07_Does : SFn := ⟨3, [], (.seq (.region false [⟨some 5, .box true 6 (.t 2), none, false⟩]) (.seq (.kp [0, 1, 5] s_law07_Does_p2) (.seq s_law07_Does_p3 s_law07_Does_p4)))⟩
def s_law07_awake_p0 : SCode := (.region false [⟨some 6, .mkslice [(.int .u8 0)] 1 (.v (.int .i64 9)) (.v (.int .i64 9)), none, false⟩,
  ⟨some 7, .build [(.int .i64 0), (.int .i64 0), .nils, .nils] [(0, 1, (.v (.int .i64 3))), (1, 1, (.v (.int .i64 3))), (2, 1, (.t 6))], none, false⟩,
  ⟨some 8, .call f_grid_New [(.t 7)], none, false⟩,
  ⟨some 5, .mv (.t 8), none, false⟩,
  ⟨some 9, .ext (.t 5) 0, none, false⟩,
  ⟨some 10, .ext (.t 5) 1, none, false⟩,
  ⟨some 1, .mv (.t 9), none, false⟩,
  ⟨some 2, .mv (.t 10), none, false⟩])
def s_law07_awake_p1 : SCode := (.region false [⟨some 12, .mv (.t 1), none, false⟩,
  ⟨some 13, .call f_clear_New [(.t 12), (.v (.int .i64 0))], none, false⟩,
  ⟨some 11, .mv (.t 13), none, false⟩,
  ⟨some 14, .ext (.t 11) 0, none, false⟩,
  ⟨some 15, .ext (.t 11) 1, none, false⟩,
  ⟨some 3, .mv (.t 14), none, false⟩,
  ⟨some 4, .mv (.t 15), none, false⟩])
def s_law07_awake_p2 : SCode := (.region false [⟨some 16, .mv (.t 2), none, false⟩,
  ⟨some 17, .bin .eql (.t 16) (.v (.int .i64 0)), none, false⟩,
  ⟨some 18, .mv (.t 17), none, false⟩,
  ⟨some 19, .mv (.t 4), (some (18, true)), false⟩,
  ⟨some 20, .bin .eql (.t 19) (.v (.int .i64 0)), (some (18, true)), false⟩,
  ⟨some 21, .pick (.t 18) (.t 20) (.v (.bool false)), none, false⟩,
  ⟨some 22, .mv (.t 21), none, false⟩,
  ⟨some 23, .mv (.t 3), (some (22, true)), false⟩,
  ⟨some 24, .build [(.int .i64 0), (.int .i64 0)] [], (some (22, true)), false⟩,
  ⟨some 25, .call f_clear_Field_At [(.t 23), (.t 24)], (some (22, true)), false⟩,
  ⟨some 26, .bin .eql (.t 25) (.v (.int .i64 3)), (some (22, true)), false⟩,
  ⟨some 27, .pick (.t 22) (.t 26) (.v (.bool false)), none, false⟩,
  ⟨some 28, .mv (.t 27), none, false⟩,
  ⟨some 29, .mv (.t 3), (some (28, true)), false⟩,
  ⟨some 30, .build [(.int .i64 0), (.int .i64 0)] [(0, 1, (.v (.int .i64 2))), (1, 1, (.v (.int .i64 2)))], (some (28, true)), false⟩,
  ⟨some 31, .call f_clear_Field_At [(.t 29), (.t 30)], (some (28, true)), false⟩,
  ⟨some 32, .bin .eql (.t 31) (.v (.int .i64 1)), (some (28, true)), false⟩,
  ⟨some 33, .pick (.t 28) (.t 32) (.v (.bool false)), none, false⟩,
  ⟨some 0, .mv (.t 33), none, false⟩])
def s_law07_awake : SFn := ⟨0, [.t 0], (.seq (.region false [⟨some 0, .mv (.v (.bool false)), none, false⟩]) (.seq (.kp [1, 2] s_law07_awake_p0) (.seq (.kp [2, 3, 4] s_law07_awake_p1) (.seq (.kp [0] s_law07_awake_p2) .ret))))⟩
def s_ref04_At_p0 : SCode := (.region false [⟨some 7, .mv (.t 6), none, false⟩,
  ⟨some 8, .mv (.t 0), none, false⟩,
  ⟨some 9, .nilck (.t 8), none, false⟩,
  ⟨some 10, .faddr 3 (.t 9), none, false⟩,
  ⟨some 11, .load none (.t 10), none, false⟩,
  ⟨some 12, .len (.t 11), none, false⟩,
  ⟨some 13, .bin .lss (.t 7) (.t 12), none, false⟩])
def s_ref04_At_p1 : SCode := (.region true [⟨some 16, .mv (.t 0), none, true⟩,
  ⟨some 17, .nilck (.t 16), none, true⟩,
  ⟨some 18, .faddr 3 (.t 17), none, true⟩,
  ⟨some 19, .load none (.t 18), none, true⟩,
  ⟨some 20, .mv (.t 6), none, true⟩,
  ⟨some 21, .iaddr 5 (.t 19) (.t 20), none, true⟩,
  ⟨some 22, .faddr 1 (.t 21), none, true⟩,
  ⟨some 23, .load (some 4) (.t 22), none, true⟩,
  ⟨some 24, .load (some 2) (.t 3), none, true⟩,
  ⟨some 25, .call f_ref03_Has [(.t 23), (.t 24)], none, false⟩])
def s_ref04_At_p2 : SCode := (.region false [⟨some 26, .mv (.t 0), none, false⟩,
  ⟨some 27, .nilck (.t 26), none, false⟩,
  ⟨some 28, .faddr 3 (.t 27), none, false⟩,
  ⟨some 29, .load none (.t 28), none, false⟩,
  ⟨some 30, .mv (.t 6), none, false⟩,
  ⟨some 31, .iaddr 5 (.t 29) (.t 30), none, false⟩,
  ⟨some 32, .faddr 0 (.t 31), none, false⟩,
  ⟨some 33, .load none (.t 32), none, false⟩,
  ⟨some 4, .mv (.t 33), none, false⟩,
  ⟨some 5, .mv (.v (.bool true)), none, false⟩])
def s_ref04_At_p3 : SCode := (.seq (.kp [0, 3, 6] (.block 1 (.seq (.kp [0, 3, 6, 25] s_ref04_At_p1) (.cond (.t 25) (.seq (.kp [4, 5] s_ref04_At_p2) .ret) .skip)))) (.region false [⟨some 14, .mv (.t 6), none, false⟩,
  ⟨some 15, .bin .add (.t 14) (.v (.int .i64 1)), none, false⟩,
  ⟨some 6, .mv (.t 15), none, false⟩]))
def s_ref04_At_p4 : SCode := (.seq (.kp [0, 3, 6] (.seq (.kp [0, 3, 6, 13] s_ref04_At_p0) (.cond (.t 13) .skip (.exit 0)))) s_ref04_At_p3)
def s_ref04_At_p5 : SCode := (.seq (.kp [] (.seq (.kp [0, 3, 6] (.region false [⟨some 6, .mv (.v (.int .i64 0)), none, false⟩])) (.block 0 (.loop (some [0, 3, 6]) s_ref04_At_p4)))) (.seq (.region false [⟨some 4, .mv (.v (.int .i64 0)), none, false⟩,
  ⟨some 5, .mv (.v (.bool false)), none, false⟩]) .ret))
def s_ref04_At : SFn := ⟨2, [.t 4, .t 5], (.seq (.region false [⟨some 3, .box true 2 (.t 1), none, false⟩,
  ⟨some 4, .mv (.v (.int .i64 0)), none, false⟩,
  ⟨some 5, .mv (.v (.bool false)), none, false⟩]) s_ref04_At_p5)⟩
def s_ref04_Terrain_p0 : SCode := (.region true [⟨some 6, .mv (.t 0), none, true⟩,
  ⟨some 8, .load (some 2) (.t 3), none, true⟩,
  ⟨some 7, .call f_ref04_All [(.t 6)], none, true⟩,
  ⟨some 9, .call f_ref03_Has [(.t 7), (.t 8)], none, false⟩,
  ⟨some 10, .un .not (.t 9), none, false⟩])
def s_ref04_Terrain_p1 : SCode := (.kp [0, 3] (.seq (.kp [0, 3, 10] s_ref04_Terrain_p0) (.cond (.t 10) (.seq (.region false [⟨some 4, .mv (.v (.int .i64 0)), none, false⟩,
  ⟨some 5, .mv (.v (.bool false)), none, false⟩]) .ret) .skip)))
def s_ref04_Terrain_p2 : SCode := (.region true [⟨some 11, .mv (.t 0), none, true⟩,
  ⟨some 12, .nilck (.t 11), none, true⟩,
  ⟨some 13, .faddr 2 (.t 12), none, true⟩,
  ⟨some 14, .load none (.t 13), none, true⟩,
  ⟨some 15, .faddr 1 (.t 3), none, true⟩,
  ⟨some 16, .load none (.t 15), none, true⟩,
  ⟨some 17, .mv (.t 0), none, true⟩,
  ⟨some 18, .nilck (.t 17), none, true⟩,
  ⟨some 19, .faddr 0 (.t 18), none, true⟩,
  ⟨some 20, .load none (.t 19), none, true⟩,
  ⟨some 21, .bin .mul (.t 16) (.t 20), none, true⟩,
  ⟨some 22, .faddr 0 (.t 3), none, true⟩,
  ⟨some 23, .load none (.t 22), none, true⟩,
  ⟨some 24, .bin .add (.t 21) (.t 23), none, true⟩,
  ⟨some 25, .iaddr 1 (.t 14) (.t 24), none, false⟩,
  ⟨some 26, .load none (.t 25), none, false⟩,
  ⟨some 27, .conv .i64 (.t 26), none, false⟩,
  ⟨some 4, .mv (.t 27), none, false⟩,
  ⟨some 5, .mv (.v (.bool true)), none, false⟩])
def s_ref04_Terrain_p3 : SCode := (.seq (.region false [⟨some 3, .box true 2 (.t 1), none, false⟩,
  ⟨some 4, .mv (.v (.int .i64 0)), none, false⟩,
  ⟨some 5, .mv (.v (.bool false)), none, false⟩]) (.seq s_ref04_Terrain_p1 (.seq (.kp [4, 5] s_ref04_Terrain_p2) .ret)))
def s_ref04_Terrain : SFn := ⟨2, [.t 4, .t 5], s_ref04_Terrain_p3⟩
def s_ref06_May_p0 : SCode := (.region false [⟨some 3, .faddr 0 (.t 1), none, false⟩,
  ⟨some 4, .load none (.t 3), none, false⟩,
  ⟨some 5, .bin .geq (.t 4) (.v (.int .i64 0)), none, false⟩,
  ⟨some 6, .mv (.t 5), none, false⟩,
  ⟨some 7, .faddr 0 (.t 1), (some (6, true)), false⟩,
  ⟨some 8, .load none (.t 7), (some (6, true)), false⟩,
  ⟨some 9, .bin .lss (.t 8) (.v (.int .i64 4)), (some (6, true)), false⟩,
  ⟨some 10, .pick (.t 6) (.t 9) (.v (.bool false)), none, false⟩,
  ⟨some 11, .mv (.t 10), none, false⟩,
  ⟨some 12, .faddr 1 (.t 1), (some (11, true)), false⟩,
  ⟨some 13, .load none (.t 12), (some (11, true)), false⟩,
  ⟨some 14, .bin .geq (.t 13) (.v (.int .i64 1)), (some (11, true)), false⟩,
  ⟨some 15, .pick (.t 11) (.t 14) (.v (.bool false)), none, false⟩,
  ⟨some 16, .mv (.t 15), none, false⟩,
  ⟨some 17, .faddr 1 (.t 1), (some (16, true)), false⟩,
  ⟨some 18, .load none (.t 17), (some (16, true)), false⟩,
  ⟨some 19, .bin .leq (.t 18) (.v (.int .i64 4)), (some (16, true)), false⟩,
  ⟨some 20, .pick (.t 16) (.t 19) (.v (.bool false)), none, false⟩,
  ⟨some 2, .mv (.t 20), none, false⟩])
def s_ref06_May : SFn := ⟨1, [.t 2], (.seq (.region false [⟨some 1, .box true 2 (.t 0), none, false⟩,
  ⟨some 2, .mv (.v (.bool false)), none, false⟩]) (.seq (.kp [2] s_ref06_May_p0) .ret))⟩
def s_ref06_Foot_p0 : SCode := (.region false [⟨some 2, .box true 2 (.t 0), none, false⟩,
  ⟨some 3, .box true 2 (.t 1), none, false⟩,
  ⟨some 4, .alloc true [(.int .i64 0), (.int .i64 0), (.int .i64 0), (.int .i64 0)], none, false⟩])
def s_ref06_Foot_p1 : SCode := (.region false [⟨some 6, .load (some 2) (.t 3), none, false⟩,
  ⟨some 7, .faddr 1 (.t 2), none, false⟩,
  ⟨some 8, .load none (.t 7), none, false⟩,
  ⟨some 9, .faddr 1 (.t 2), none, false⟩,
  ⟨some 10, .load none (.t 9), none, false⟩,
  ⟨some 11, .build [(.int .i64 0), (.int .i64 0), (.int .i64 0), (.int .i64 0)] [(0, 2, (.t 6)), (2, 1, (.t 8)), (3, 1, (.t 10))], none, false⟩,
  ⟨some 5, .alloc true [(.int .i64 0), (.int .i64 0), (.int .i64 0), (.int .i64 0)], none, false⟩,
  ⟨none, .store 4 [] (.t 5) (.t 11), none, false⟩])
def s_ref06_Foot_p2 : SCode := (.region false [⟨some 12, .load (some 2) (.t 2), none, false⟩,
  ⟨some 13, .call f_ref06_May [(.t 12)], none, false⟩,
  ⟨some 14, .un .not (.t 13), none, false⟩,
  ⟨some 15, .mv (.t 14), none, false⟩,
  ⟨some 16, .load (some 4) (.t 5), (some (15, false)), false⟩,
  ⟨some 17, .call f_ref03_May [(.t 16)], (some (15, false)), false⟩,
  ⟨some 18, .un .not (.t 17), (some (15, false)), false⟩,
  ⟨some 19, .pick (.t 15) (.v (.bool true)) (.t 18), none, false⟩])
def s_ref06_Foot_p3 : SCode := (.cond (.t 19) (.seq (.region false [⟨some 20, .build [(.int .i64 0), (.int .i64 0), (.int .i64 0), (.int .i64 0)] [], none, false⟩,
  ⟨none, .store 4 [] (.t 4) (.t 20), none, false⟩]) .ret) .skip)
def s_ref06_Foot_p4 : SCode := (.seq (.kp [4, 5] (.seq (.kp [4, 5, 19] s_ref06_Foot_p2) s_ref06_Foot_p3)) (.seq (.region false [⟨some 21, .load (some 4) (.t 5), none, false⟩,
  ⟨none, .store 4 [] (.t 4) (.t 21), none, false⟩]) .ret))
def s_ref06_Foot : SFn := ⟨2, [.cell 4 (some 4)], (.seq s_ref06_Foot_p0 (.seq (.kp [2, 4, 5] s_ref06_Foot_p1) s_ref06_Foot_p4))⟩
def s_ref06_On_p0 : SCode := (.region false [⟨some 8, .mv (.t 1), none, false⟩,
  ⟨some 9, .bin .eql (.t 8) (.v (.int .i64 0)), none, false⟩,
  ⟨some 10, .mv (.t 9), none, false⟩,
  ⟨some 11, .mv (.t 1), (some (10, false)), false⟩,
  ⟨some 12, .bin .eql (.t 11) (.v (.int .i64 1)), (some (10, false)), false⟩,
  ⟨some 13, .pick (.t 10) (.v (.bool true)) (.t 12), none, false⟩,
  ⟨some 4, .mv (.t 13), none, false⟩])
def s_ref06_On_p1 : SCode := (.region false [⟨some 24, .mv (.t 1), none, false⟩,
  ⟨some 25, .bin .eql (.t 24) (.v (.int .i64 0)), none, false⟩,
  ⟨some 26, .mv (.t 25), none, false⟩,
  ⟨some 27, .mv (.t 1), (some (26, false)), false⟩,
  ⟨some 28, .bin .eql (.t 27) (.v (.int .i64 2)), (some (26, false)), false⟩,
  ⟨some 29, .pick (.t 26) (.v (.bool true)) (.t 28), none, false⟩,
  ⟨some 4, .mv (.t 29), none, false⟩])
def s_ref06_On_p2 : SCode := (.cond (.t 18) (.seq (.region false [⟨some 20, .mv (.t 1), none, false⟩,
  ⟨some 21, .bin .eql (.t 20) (.v (.int .i64 2)), none, false⟩,
  ⟨some 4, .mv (.t 21), none, false⟩]) .ret) (.seq (.region false [⟨some 23, .bin .eql (.t 5) (.v (.int .i64 3)), none, false⟩,
  ⟨some 22, .mv (.t 23), none, false⟩]) (.cond (.t 22) (.seq (.kp [4] s_ref06_On_p1) .ret) .skip)))
def s_ref06_On_p3 : SCode := (.cond (.t 14) (.seq (.region false [⟨some 16, .mv (.t 1), none, false⟩,
  ⟨some 17, .bin .eql (.t 16) (.v (.int .i64 0)), none, false⟩,
  ⟨some 4, .mv (.t 17), none, false⟩]) .ret) (.seq (.region false [⟨some 19, .bin .eql (.t 5) (.v (.int .i64 2)), none, false⟩,
  ⟨some 18, .mv (.t 19), none, false⟩]) s_ref06_On_p2))
def s_ref06_On_p4 : SCode := (.seq (.region false [⟨some 7, .bin .eql (.t 5) (.v (.int .i64 0)), none, false⟩,
  ⟨some 6, .mv (.t 7), none, false⟩]) (.cond (.t 6) (.seq (.kp [4] s_ref06_On_p0) .ret) (.seq (.region false [⟨some 15, .bin .eql (.t 5) (.v (.int .i64 1)), none, false⟩,
  ⟨some 14, .mv (.t 15), none, false⟩]) s_ref06_On_p3)))
def s_ref06_On_p5 : SCode := (.seq (.region false [⟨some 4, .mv (.v (.bool false)), none, false⟩]) (.seq (.kp [] (.seq (.region false [⟨some 5, .mv (.t 0), none, false⟩]) (.block 0 s_ref06_On_p4))) (.seq (.region false [⟨some 4, .mv (.v (.bool false)), none, false⟩]) .ret)))
def s_ref06_On : SFn := ⟨2, [.t 4], s_ref06_On_p5⟩
def s_ref06_Stands_p0 : SCode := (.region false [⟨some 14, .load (some 2) (.t 4), none, false⟩,
  ⟨some 15, .load (some 2) (.t 5), none, false⟩,
  ⟨some 16, .call f_ref06_Foot [(.t 14), (.t 15)], none, false⟩,
  ⟨some 7, .alloc true [(.int .i64 0), (.int .i64 0), (.int .i64 0), (.int .i64 0)], none, false⟩,
  ⟨none, .store 4 [] (.t 7) (.t 16), none, false⟩])
def s_ref06_Stands_p1 : SCode := (.region true [⟨some 17, .load (some 4) (.t 7), none, true⟩,
  ⟨some 18, .mv (.t 0), none, true⟩,
  ⟨some 19, .call f_ref04_All [(.t 18)], none, true⟩,
  ⟨some 20, .call f_ref03_Within [(.t 17), (.t 19)], none, false⟩,
  ⟨some 21, .un .not (.t 20), none, false⟩])
def s_ref06_Stands_p2 : SCode := (.region false [⟨some 22, .faddr 0 (.t 7), none, false⟩,
  ⟨some 23, .faddr 1 (.t 22), none, false⟩,
  ⟨some 24, .load none (.t 23), none, false⟩,
  ⟨some 8, .mv (.t 24), none, false⟩])
def s_ref06_Stands_p3 : SCode := (.region false [⟨some 25, .mv (.t 8), none, false⟩,
  ⟨some 26, .faddr 0 (.t 7), none, false⟩,
  ⟨some 27, .faddr 1 (.t 26), none, false⟩,
  ⟨some 28, .load none (.t 27), none, false⟩,
  ⟨some 29, .faddr 3 (.t 7), none, false⟩,
  ⟨some 30, .load none (.t 29), none, false⟩,
  ⟨some 31, .bin .add (.t 28) (.t 30), none, false⟩,
  ⟨some 32, .bin .lss (.t 25) (.t 31), none, false⟩])
def s_ref06_Stands_p4 : SCode := (.region false [⟨some 35, .faddr 0 (.t 7), none, false⟩,
  ⟨some 36, .faddr 0 (.t 35), none, false⟩,
  ⟨some 37, .load none (.t 36), none, false⟩,
  ⟨some 9, .mv (.t 37), none, false⟩])
def s_ref06_Stands_p5 : SCode := (.region false [⟨some 38, .mv (.t 9), none, false⟩,
  ⟨some 39, .faddr 0 (.t 7), none, false⟩,
  ⟨some 40, .faddr 0 (.t 39), none, false⟩,
  ⟨some 41, .load none (.t 40), none, false⟩,
  ⟨some 42, .faddr 2 (.t 7), none, false⟩,
  ⟨some 43, .load none (.t 42), none, false⟩,
  ⟨some 44, .bin .add (.t 41) (.t 43), none, false⟩,
  ⟨some 45, .bin .lss (.t 38) (.t 44), none, false⟩])
def s_ref06_Stands_p6 : SCode := (.region false [⟨some 49, .mv (.t 0), none, false⟩,
  ⟨some 50, .mv (.t 9), none, false⟩,
  ⟨some 51, .mv (.t 8), none, false⟩,
  ⟨some 52, .build [(.int .i64 0), (.int .i64 0)] [(0, 1, (.t 50)), (1, 1, (.t 51))], none, false⟩,
  ⟨some 53, .call f_ref04_Terrain [(.t 49), (.t 52)], none, false⟩,
  ⟨some 48, .mv (.t 53), none, false⟩,
  ⟨some 54, .ext (.t 48) 0, none, false⟩,
  ⟨some 55, .ext (.t 48) 1, none, false⟩,
  ⟨some 10, .mv (.t 54), none, false⟩,
  ⟨some 11, .mv (.t 55), none, false⟩])
def s_ref06_Stands_p7 : SCode := (.region false [⟨some 57, .mv (.t 0), none, false⟩,
  ⟨some 58, .mv (.t 9), none, false⟩,
  ⟨some 59, .mv (.t 8), none, false⟩,
  ⟨some 60, .build [(.int .i64 0), (.int .i64 0)] [(0, 1, (.t 58)), (1, 1, (.t 59))], none, false⟩,
  ⟨some 61, .call f_ref04_At [(.t 57), (.t 60)], none, false⟩,
  ⟨some 56, .mv (.t 61), none, false⟩,
  ⟨some 62, .ext (.t 56) 0, none, false⟩,
  ⟨some 63, .ext (.t 56) 1, none, false⟩,
  ⟨some 12, .mv (.t 62), none, false⟩,
  ⟨some 13, .mv (.t 63), none, false⟩])
def s_ref06_Stands_p8 : SCode := (.region false [⟨some 64, .mv (.t 13), none, false⟩,
  ⟨some 65, .mv (.t 64), none, false⟩,
  ⟨some 66, .faddr 0 (.t 4), (some (65, false)), false⟩,
  ⟨some 67, .load none (.t 66), (some (65, false)), false⟩,
  ⟨some 68, .mv (.t 10), (some (65, false)), false⟩,
  ⟨some 69, .call f_ref06_On [(.t 67), (.t 68)], (some (65, false)), false⟩,
  ⟨some 70, .un .not (.t 69), (some (65, false)), false⟩,
  ⟨some 71, .pick (.t 65) (.v (.bool true)) (.t 70), none, false⟩])
def s_ref06_Stands_p9 : SCode := (.seq (.kp [0, 4, 7, 8, 9, 10, 13] s_ref06_Stands_p7) (.seq (.kp [0, 4, 7, 8, 9, 71] s_ref06_Stands_p8) (.cond (.t 71) (.seq (.region false [⟨some 6, .mv (.v (.bool false)), none, false⟩]) .ret) .skip)))
def s_ref06_Stands_p10 : SCode := (.seq (.kp [0, 4, 7, 8, 9] (.block 3 (.seq (.kp [0, 4, 7, 8, 9, 10] s_ref06_Stands_p6) s_ref06_Stands_p9))) (.region false [⟨some 46, .mv (.t 9), none, false⟩,
  ⟨some 47, .bin .add (.t 46) (.v (.int .i64 1)), none, false⟩,
  ⟨some 9, .mv (.t 47), none, false⟩]))
def s_ref06_Stands_p11 : SCode := (.seq (.kp [0, 4, 7, 8, 9] (.seq (.kp [0, 4, 7, 8, 9, 45] s_ref06_Stands_p5) (.cond (.t 45) .skip (.exit 2)))) s_ref06_Stands_p10)
def s_ref06_Stands_p12 : SCode := (.seq (.kp [0, 4, 7, 8] (.block 1 (.seq (.kp [0, 4, 7, 8, 9] s_ref06_Stands_p4) (.block 2 (.loop (some [0, 4, 7, 8, 9]) s_ref06_Stands_p11))))) (.region false [⟨some 33, .mv (.t 8), none, false⟩,
  ⟨some 34, .bin .add (.t 33) (.v (.int .i64 1)), none, false⟩,
  ⟨some 8, .mv (.t 34), none, false⟩]))
def s_ref06_Stands_p13 : SCode := (.seq (.kp [0, 4, 7, 8] (.seq (.kp [0, 4, 7, 8, 32] s_ref06_Stands_p3) (.cond (.t 32) .skip (.exit 0)))) s_ref06_Stands_p12)
def s_ref06_Stands_p14 : SCode := (.seq (.kp [0, 4, 7] (.seq (.kp [0, 4, 7, 21] s_ref06_Stands_p1) (.cond (.t 21) (.seq (.region false [⟨some 6, .mv (.v (.bool false)), none, false⟩]) .ret) .skip))) (.seq (.kp [] (.seq (.kp [0, 4, 7, 8] s_ref06_Stands_p2) (.block 0 (.loop (some [0, 4, 7, 8]) s_ref06_Stands_p13)))) (.seq (.region false [⟨some 6, .mv (.v (.bool true)), none, false⟩]) .ret)))
def s_ref06_Stands_p15 : SCode := (.seq (.region false [⟨some 4, .box true 2 (.t 1), none, false⟩,
  ⟨some 5, .box true 2 (.t 2), none, false⟩,
  ⟨some 6, .mv (.v (.bool false)), none, false⟩]) (.seq (.kp [0, 4, 7] s_ref06_Stands_p0) s_ref06_Stands_p14))
def s_ref06_Stands : SFn := ⟨3, [.t 6], s_ref06_Stands_p15⟩
def s_ref06_Clear_p0 : SCode := (.region false [⟨some 13, .mv (.t 0), none, false⟩,
  ⟨some 14, .mv (.t 1), none, false⟩,
  ⟨some 15, .mv (.t 8), none, false⟩,
  ⟨some 16, .build [(.int .i64 0), (.int .i64 0)] [(0, 1, (.t 14)), (1, 1, (.t 15))], none, false⟩,
  ⟨some 17, .load (some 2) (.t 5), none, false⟩,
  ⟨some 18, .call f_ref06_Stands [(.t 13), (.t 16), (.t 17)], none, false⟩])
def s_ref06_Clear_p1 : SCode := (.kp [0, 1, 5, 7, 8] (.block 1 (.seq (.kp [0, 1, 5, 7, 8, 18] s_ref06_Clear_p0) (.cond (.t 18) (.region false [⟨some 19, .mv (.t 8), none, false⟩,
  ⟨some 7, .mv (.t 19), none, false⟩]) .skip))))
def s_ref06_Clear_p2 : SCode := (.seq (.kp [0, 1, 5, 7, 8] (.seq (.region false [⟨some 9, .mv (.t 8), none, false⟩,
  ⟨some 10, .bin .leq (.t 9) (.v (.int .i64 4)), none, false⟩]) (.cond (.t 10) .skip (.exit 0)))) (.seq s_ref06_Clear_p1 (.region false [⟨some 11, .mv (.t 8), none, false⟩,
  ⟨some 12, .bin .add (.t 11) (.v (.int .i64 1)), none, false⟩,
  ⟨some 8, .mv (.t 12), none, false⟩])))
def s_ref06_Clear_p3 : SCode := (.seq (.kp [7] (.seq (.kp [0, 1, 5, 7, 8] (.region false [⟨some 8, .mv (.v (.int .i64 1)), none, false⟩])) (.block 0 (.loop (some [0, 1, 5, 7, 8]) s_ref06_Clear_p2)))) (.seq (.region false [⟨some 20, .mv (.t 7), none, false⟩,
  ⟨some 6, .mv (.t 20), none, false⟩]) .ret))
def s_ref06_Clear_p4 : SCode := (.seq (.region false [⟨some 5, .box true 2 (.t 2), none, false⟩,
  ⟨some 6, .mv (.v (.int .i64 0)), none, false⟩]) (.seq (.region false [⟨some 7, .mv (.v (.int .i64 0)), none, false⟩]) s_ref06_Clear_p3))
def s_ref06_Clear : SFn := ⟨3, [.t 6], s_ref06_Clear_p4⟩
def s_law07_right_p0 : SCode := (.region false [⟨some 11, .mv (.t 1), none, false⟩,
  ⟨some 12, .call f_ref04_All [(.t 11)], none, false⟩,
  ⟨some 7, .alloc true [(.int .i64 0), (.int .i64 0), (.int .i64 0), (.int .i64 0)], none, false⟩,
  ⟨none, .store 4 [] (.t 7) (.t 12), none, false⟩])
def s_law07_right_p1 : SCode := (.region false [⟨some 13, .mv (.t 8), none, false⟩,
  ⟨some 14, .faddr 3 (.t 7), none, false⟩,
  ⟨some 15, .load none (.t 14), none, false⟩,
  ⟨some 16, .bin .leq (.t 13) (.t 15), none, false⟩])
def s_law07_right_p2 : SCode := (.region false [⟨some 19, .mv (.t 9), none, false⟩,
  ⟨some 20, .faddr 2 (.t 7), none, false⟩,
  ⟨some 21, .load none (.t 20), none, false⟩,
  ⟨some 22, .bin .leq (.t 19) (.t 21), none, false⟩])
def s_law07_right_p3 : SCode := (.region false [⟨some 25, .mv (.t 9), none, false⟩,
  ⟨some 26, .mv (.t 8), none, false⟩,
  ⟨some 27, .build [(.int .i64 0), (.int .i64 0)] [(0, 1, (.t 25)), (1, 1, (.t 26))], none, false⟩,
  ⟨some 10, .alloc true [(.int .i64 0), (.int .i64 0)], none, false⟩,
  ⟨none, .store 2 [] (.t 10) (.t 27), none, false⟩])
def s_law07_right_p4 : SCode := (.region true [⟨some 28, .mv (.t 0), none, true⟩,
  ⟨some 29, .load (some 2) (.t 10), none, true⟩,
  ⟨some 31, .mv (.t 1), none, true⟩,
  ⟨some 32, .mv (.t 2), none, true⟩,
  ⟨some 33, .load (some 2) (.t 10), none, true⟩,
  ⟨some 30, .call f_clear_Field_At [(.t 28), (.t 29)], none, true⟩,
  ⟨some 34, .call f_ref06_Clear [(.t 31), (.t 32), (.t 33)], none, false⟩,
  ⟨some 35, .bin .neq (.t 30) (.t 34), none, false⟩])
def s_law07_right_p5 : SCode := (.seq (.kp [0, 1, 2, 7, 8, 9, 10] s_law07_right_p3) (.seq (.kp [0, 1, 2, 7, 8, 9, 35] s_law07_right_p4) (.cond (.t 35) (.seq (.region false [⟨some 6, .mv (.v (.bool false)), none, false⟩]) .ret) .skip)))
def s_law07_right_p6 : SCode := (.seq (.kp [0, 1, 2, 7, 8, 9] (.block 3 s_law07_right_p5)) (.region false [⟨some 23, .mv (.t 9), none, false⟩,
  ⟨some 24, .bin .add (.t 23) (.v (.int .i64 1)), none, false⟩,
  ⟨some 9, .mv (.t 24), none, false⟩]))
def s_law07_right_p7 : SCode := (.seq (.kp [0, 1, 2, 7, 8, 9] (.seq s_law07_right_p2 (.cond (.t 22) .skip (.exit 2)))) s_law07_right_p6)
def s_law07_right_p8 : SCode := (.kp [0, 1, 2, 7, 8] (.block 1 (.seq (.kp [0, 1, 2, 7, 8, 9] (.region false [⟨some 9, .mv (.v (.int .i64 (-1))), none, false⟩])) (.block 2 (.loop (some [0, 1, 2, 7, 8, 9]) s_law07_right_p7)))))
def s_law07_right_p9 : SCode := (.seq (.kp [0, 1, 2, 7, 8] (.seq s_law07_right_p1 (.cond (.t 16) .skip (.exit 0)))) (.seq s_law07_right_p8 (.region false [⟨some 17, .mv (.t 8), none, false⟩,
  ⟨some 18, .bin .add (.t 17) (.v (.int .i64 1)), none, false⟩,
  ⟨some 8, .mv (.t 18), none, false⟩])))
def s_law07_right_p10 : SCode := (.seq (.kp [] (.seq (.kp [0, 1, 2, 7, 8] (.region false [⟨some 8, .mv (.v (.int .i64 (-1))), none, false⟩])) (.block 0 (.loop (some [0, 1, 2, 7, 8]) s_law07_right_p9)))) (.seq (.region false [⟨some 6, .mv (.v (.bool true)), none, false⟩]) .ret))
def s_law07_right : SFn := ⟨3, [.t 6], (.seq (.region false [⟨some 6, .mv (.v (.bool false)), none, false⟩]) (.seq s_law07_right_p0 s_law07_right_p10))⟩
def s_law07_ClearUpdates_p0 : SCode := (.region false [⟨some 22, .load (some 4) (.t 3), none, false⟩,
  ⟨some 23, .call f_law06_Both [(.t 22)], none, false⟩,
  ⟨some 21, .mv (.t 23), none, false⟩,
  ⟨some 24, .ext (.t 21) 0, none, false⟩,
  ⟨some 25, .ext (.t 21) 1, none, false⟩,
  ⟨some 26, .ext (.t 21) 2, none, false⟩,
  ⟨some 7, .mv (.t 24), none, false⟩,
  ⟨some 8, .mv (.t 25), none, false⟩,
  ⟨some 9, .mv (.t 26), none, false⟩])
def s_law07_ClearUpdates_p1 : SCode := (.region false [⟨some 28, .mv (.t 7), none, false⟩,
  ⟨some 29, .mv (.t 1), none, false⟩,
  ⟨some 30, .call f_clear_New [(.t 28), (.t 29)], none, false⟩,
  ⟨some 27, .mv (.t 30), none, false⟩,
  ⟨some 31, .ext (.t 27) 0, none, false⟩,
  ⟨some 32, .ext (.t 27) 1, none, false⟩,
  ⟨some 10, .mv (.t 31), none, false⟩,
  ⟨some 11, .mv (.t 32), none, false⟩])
def s_law07_ClearUpdates_p2 : SCode := (.region false [⟨some 33, .mv (.t 9), none, false⟩,
  ⟨some 34, .un .not (.t 33), none, false⟩,
  ⟨some 35, .mv (.t 34), none, false⟩,
  ⟨some 36, .mv (.t 11), (some (35, false)), false⟩,
  ⟨some 37, .bin .neq (.t 36) (.v (.int .i64 0)), (some (35, false)), false⟩,
  ⟨some 38, .pick (.t 35) (.v (.bool true)) (.t 37), none, false⟩,
  ⟨some 39, .mv (.t 38), none, false⟩,
  ⟨some 40, .faddr 0 (.t 3), (some (39, false)), false⟩,
  ⟨some 41, .load none (.t 40), (some (39, false)), false⟩,
  ⟨some 42, .faddr 1 (.t 3), (some (39, false)), false⟩,
  ⟨some 43, .load none (.t 42), (some (39, false)), false⟩,
  ⟨some 44, .bin .mul (.t 41) (.t 43), (some (39, false)), false⟩,
  ⟨some 45, .bin .gtr (.t 44) (.v (.int .i64 1500)), (some (39, false)), false⟩,
  ⟨some 46, .pick (.t 39) (.v (.bool true)) (.t 45), none, false⟩,
  ⟨some 47, .mv (.t 46), none, false⟩,
  ⟨some 48, .mv (.t 2), (some (47, false)), false⟩,
  ⟨some 49, .len (.t 48), (some (47, false)), false⟩,
  ⟨some 50, .bin .gtr (.t 49) (.v (.int .i64 60)), (some (47, false)), false⟩,
  ⟨some 51, .pick (.t 47) (.v (.bool true)) (.t 50), none, false⟩])
def s_law07_ClearUpdates_p3 : SCode := (.kp [1, 2, 7, 8, 10] (.seq (.kp [1, 2, 7, 8, 10, 51] s_law07_ClearUpdates_p2) (.cond (.t 51) (.seq (.region false [⟨some 52, .call f_law07_awake [], none, false⟩,
  ⟨some 6, .mv (.t 52), none, false⟩]) .ret) .skip)))
def s_law07_ClearUpdates_p4 : SCode := (.region false [⟨some 54, .mv (.t 8), none, false⟩,
  ⟨some 55, .call f_ref04_All [(.t 54)], none, false⟩,
  ⟨some 13, .alloc true [(.int .i64 0), (.int .i64 0), (.int .i64 0), (.int .i64 0)], none, false⟩,
  ⟨none, .store 4 [] (.t 13) (.t 55), none, false⟩])
def s_law07_ClearUpdates_p5 : SCode := (.region false [⟨some 56, .mv (.t 14), none, false⟩,
  ⟨some 57, .faddr 2 (.t 13), none, false⟩,
  ⟨some 58, .load none (.t 57), none, false⟩,
  ⟨some 59, .faddr 3 (.t 13), none, false⟩,
  ⟨some 60, .load none (.t 59), none, false⟩,
  ⟨some 61, .bin .mul (.t 58) (.t 60), none, false⟩,
  ⟨some 62, .bin .lss (.t 56) (.t 61), none, false⟩])
def s_law07_ClearUpdates_p6 : SCode := (.region true [⟨some 65, .mv (.t 12), none, true⟩,
  ⟨some 66, .mv (.t 10), none, true⟩,
  ⟨some 67, .mv (.t 14), none, true⟩,
  ⟨some 68, .faddr 2 (.t 13), none, true⟩,
  ⟨some 69, .load none (.t 68), none, true⟩,
  ⟨some 70, .bin .rem (.t 67) (.t 69), none, true⟩,
  ⟨some 71, .mv (.t 14), none, true⟩,
  ⟨some 72, .faddr 2 (.t 13), none, true⟩,
  ⟨some 73, .load none (.t 72), none, true⟩,
  ⟨some 74, .bin .quo (.t 71) (.t 73), none, true⟩,
  ⟨some 75, .build [(.int .i64 0), (.int .i64 0)] [(0, 1, (.t 70)), (1, 1, (.t 74))], none, false⟩,
  ⟨some 76, .call f_clear_Field_At [(.t 66), (.t 75)], none, false⟩,
  ⟨some 77, .bslice [(.int .i64 0)] 1 1 [(0, 1, (.t 76))], none, false⟩,
  ⟨some 78, .append 1 8 [(.int .i64 0)] [] (.t 65) (.t 77), none, false⟩,
  ⟨some 12, .mv (.t 78), none, false⟩])
def s_law07_ClearUpdates_p7 : SCode := (.seq (.kp [1, 2, 7, 8, 10, 12, 13, 14] (.block 1 s_law07_ClearUpdates_p6)) (.region false [⟨some 63, .mv (.t 14), none, false⟩,
  ⟨some 64, .bin .add (.t 63) (.v (.int .i64 1)), none, false⟩,
  ⟨some 14, .mv (.t 64), none, false⟩]))
def s_law07_ClearUpdates_p8 : SCode := (.seq (.kp [1, 2, 7, 8, 10, 12, 13, 14] (.seq (.kp [1, 2, 7, 8, 10, 12, 13, 14, 62] s_law07_ClearUpdates_p5) (.cond (.t 62) .skip (.exit 0)))) s_law07_ClearUpdates_p7)
def s_law07_ClearUpdates_p9 : SCode := (.kp [1, 2, 7, 8, 10, 12, 13] (.seq (.kp [1, 2, 7, 8, 10, 12, 13, 14] (.region false [⟨some 14, .mv (.v (.int .i64 0)), none, false⟩])) (.block 0 (.loop (some [1, 2, 7, 8, 10, 12, 13, 14]) s_law07_ClearUpdates_p8))))
def s_law07_ClearUpdates_p10 : SCode := (.region false [⟨some 79, .mv (.t 15), none, false⟩,
  ⟨some 80, .mv (.t 2), none, false⟩,
  ⟨some 81, .len (.t 80), none, false⟩,
  ⟨some 82, .bin .lss (.t 79) (.t 81), none, false⟩])
def s_law07_ClearUpdates_p11 : SCode := (.region false [⟨some 85, .mv (.t 7), none, false⟩,
  ⟨some 86, .mv (.t 8), none, false⟩,
  ⟨some 87, .mv (.t 2), none, false⟩,
  ⟨some 88, .mv (.t 15), none, false⟩,
  ⟨some 89, .iaddr 6 (.t 87) (.t 88), none, false⟩,
  ⟨some 90, .load (some 6) (.t 89), none, false⟩,
  ⟨some 91, .call f_law07_Does [(.t 85), (.t 86), (.t 90)], none, false⟩])
def s_law07_ClearUpdates_p12 : SCode := (.region false [⟨some 92, .mv (.t 15), none, false⟩,
  ⟨some 93, .bin .rem (.t 92) (.v (.int .i64 3)), none, false⟩,
  ⟨some 94, .bin .neq (.t 93) (.v (.int .i64 2)), none, false⟩,
  ⟨some 95, .mv (.t 94), none, false⟩,
  ⟨some 96, .mv (.t 15), (some (95, true)), false⟩,
  ⟨some 97, .bin .add (.t 96) (.v (.int .i64 1)), (some (95, true)), false⟩,
  ⟨some 98, .mv (.t 2), (some (95, true)), false⟩,
  ⟨some 99, .len (.t 98), (some (95, true)), false⟩,
  ⟨some 100, .bin .lss (.t 97) (.t 99), (some (95, true)), false⟩,
  ⟨some 101, .pick (.t 95) (.t 100) (.v (.bool false)), none, false⟩])
def s_law07_ClearUpdates_p13 : SCode := (.region false [⟨some 103, .mv (.t 10), none, false⟩,
  ⟨some 104, .call f_clear_Field_Update [(.t 103)], none, false⟩,
  ⟨some 102, .mv (.t 104), none, false⟩,
  ⟨some 105, .ext (.t 102) 0, none, false⟩,
  ⟨some 106, .ext (.t 102) 1, none, false⟩,
  ⟨some 16, .mv (.t 105), none, false⟩,
  ⟨some 17, .mv (.t 106), none, false⟩])
def s_law07_ClearUpdates_p14 : SCode := (.region false [⟨some 107, .mv (.t 19), none, false⟩,
  ⟨some 108, .mv (.t 12), none, false⟩,
  ⟨some 109, .len (.t 108), none, false⟩,
  ⟨some 110, .bin .lss (.t 107) (.t 109), none, false⟩])
def s_law07_ClearUpdates_p15 : SCode := (.region true [⟨some 113, .mv (.t 10), none, true⟩,
  ⟨some 114, .mv (.t 19), none, true⟩,
  ⟨some 115, .faddr 2 (.t 13), none, true⟩,
  ⟨some 116, .load none (.t 115), none, true⟩,
  ⟨some 117, .bin .rem (.t 114) (.t 116), none, true⟩,
  ⟨some 118, .mv (.t 19), none, true⟩,
  ⟨some 119, .faddr 2 (.t 13), none, true⟩,
  ⟨some 120, .load none (.t 119), none, true⟩,
  ⟨some 121, .bin .quo (.t 118) (.t 120), none, true⟩,
  ⟨some 122, .build [(.int .i64 0), (.int .i64 0)] [(0, 1, (.t 117)), (1, 1, (.t 121))], none, false⟩,
  ⟨some 123, .call f_clear_Field_At [(.t 113), (.t 122)], none, false⟩,
  ⟨some 20, .mv (.t 123), none, false⟩])
def s_law07_ClearUpdates_p16 : SCode := (.region false [⟨some 124, .mv (.t 20), none, false⟩,
  ⟨some 125, .mv (.t 12), none, false⟩,
  ⟨some 126, .mv (.t 19), none, false⟩,
  ⟨some 127, .iaddr 1 (.t 125) (.t 126), none, false⟩,
  ⟨some 128, .load none (.t 127), none, false⟩,
  ⟨some 129, .bin .neq (.t 124) (.t 128), none, false⟩])
def s_law07_ClearUpdates_p17 : SCode := (.cond (.t 129) (.region false [⟨some 130, .mv (.t 18), none, false⟩,
  ⟨some 131, .bin .add (.t 130) (.v (.int .i64 1)), none, false⟩,
  ⟨some 18, .mv (.t 131), none, false⟩]) .skip)
def s_law07_ClearUpdates_p18 : SCode := (.region false [⟨some 132, .mv (.t 12), none, false⟩,
  ⟨some 133, .mv (.t 19), none, false⟩,
  ⟨some 134, .mv (.t 20), none, false⟩,
  ⟨some 135, .iaddr 1 (.t 132) (.t 133), none, false⟩,
  ⟨none, .store 1 [] (.t 135) (.t 134), none, false⟩])
def s_law07_ClearUpdates_p19 : SCode := (.seq (.kp [1, 2, 7, 8, 10, 12, 13, 15, 16, 17, 18, 19, 20] s_law07_ClearUpdates_p15) (.seq (.kp [1, 2, 7, 8, 10, 12, 13, 15, 16, 17, 18, 19, 20] (.seq (.kp [1, 2, 7, 8, 10, 12, 13, 15, 16, 17, 18, 19, 20, 129] s_law07_ClearUpdates_p16) s_law07_ClearUpdates_p17)) s_law07_ClearUpdates_p18))
def s_law07_ClearUpdates_p20 : SCode := (.seq (.kp [1, 2, 7, 8, 10, 12, 13, 15, 16, 17, 18, 19] (.block 5 s_law07_ClearUpdates_p19)) (.region false [⟨some 111, .mv (.t 19), none, false⟩,
  ⟨some 112, .bin .add (.t 111) (.v (.int .i64 1)), none, false⟩,
  ⟨some 19, .mv (.t 112), none, false⟩]))
def s_law07_ClearUpdates_p21 : SCode := (.seq (.kp [1, 2, 7, 8, 10, 12, 13, 15, 16, 17, 18, 19] (.seq s_law07_ClearUpdates_p14 (.cond (.t 110) .skip (.exit 4)))) s_law07_ClearUpdates_p20)
def s_law07_ClearUpdates_p22 : SCode := (.seq (.kp [1, 2, 7, 8, 10, 12, 13, 15, 16, 17, 18, 19] (.region false [⟨some 19, .mv (.v (.int .i64 0)), none, false⟩])) (.block 4 (.loop (some [1, 2, 7, 8, 10, 12, 13, 15, 16, 17, 18, 19]) s_law07_ClearUpdates_p21)))
def s_law07_ClearUpdates_p23 : SCode := (.region false [⟨some 136, .mv (.t 17), none, false⟩,
  ⟨some 137, .bin .neq (.t 136) (.v (.int .i64 0)), none, false⟩,
  ⟨some 138, .mv (.t 137), none, false⟩,
  ⟨some 139, .mv (.t 16), (some (138, false)), false⟩,
  ⟨some 140, .mv (.t 18), (some (138, false)), false⟩,
  ⟨some 141, .bin .neq (.t 139) (.t 140), (some (138, false)), false⟩,
  ⟨some 142, .pick (.t 138) (.v (.bool true)) (.t 141), none, false⟩,
  ⟨some 143, .mv (.t 142), none, false⟩,
  ⟨some 144, .mv (.t 10), (some (143, false)), false⟩,
  ⟨some 145, .call f_clear_Field_Epoch [(.t 144)], (some (143, false)), false⟩,
  ⟨some 146, .mv (.t 7), (some (143, false)), false⟩,
  ⟨some 147, .call f_grid_World_Epoch [(.t 146)], (some (143, false)), false⟩,
  ⟨some 148, .bin .neq (.t 145) (.t 147), (some (143, false)), false⟩,
  ⟨some 149, .pick (.t 143) (.v (.bool true)) (.t 148), none, false⟩,
  ⟨some 150, .mv (.t 149), none, false⟩,
  ⟨some 151, .mv (.t 10), (some (150, false)), false⟩,
  ⟨some 152, .mv (.t 8), (some (150, false)), false⟩,
  ⟨some 153, .mv (.t 1), (some (150, false)), false⟩,
  ⟨some 154, .call f_law07_right [(.t 151), (.t 152), (.t 153)], (some (150, false)), false⟩,
  ⟨some 155, .un .not (.t 154), (some (150, false)), false⟩,
  ⟨some 156, .pick (.t 150) (.v (.bool true)) (.t 155), none, false⟩])
def s_law07_ClearUpdates_p24 : SCode := (.seq (.kp [1, 2, 7, 8, 10, 12, 13, 15, 16, 17, 18] s_law07_ClearUpdates_p22) (.seq (.kp [1, 2, 7, 8, 10, 12, 13, 15, 156] s_law07_ClearUpdates_p23) (.cond (.t 156) (.seq (.region false [⟨some 6, .mv (.v (.bool false)), none, false⟩]) .ret) .skip)))
def s_law07_ClearUpdates_p25 : SCode := (.seq (.kp [1, 2, 7, 8, 10, 12, 13, 15] (.seq (.kp [1, 2, 7, 8, 10, 12, 13, 15, 101] s_law07_ClearUpdates_p12) (.cond (.t 101) (.exit 3) .skip))) (.seq (.kp [1, 2, 7, 8, 10, 12, 13, 15, 16, 17] s_law07_ClearUpdates_p13) (.seq (.region false [⟨some 18, .mv (.v (.int .i64 0)), none, false⟩]) s_law07_ClearUpdates_p24)))
def s_law07_ClearUpdates_p26 : SCode := (.seq (.kp [1, 2, 7, 8, 10, 12, 13, 15] (.block 3 (.seq (.kp [1, 2, 7, 8, 10, 12, 13, 15] s_law07_ClearUpdates_p11) s_law07_ClearUpdates_p25))) (.region false [⟨some 83, .mv (.t 15), none, false⟩,
  ⟨some 84, .bin .add (.t 83) (.v (.int .i64 1)), none, false⟩,
  ⟨some 15, .mv (.t 84), none, false⟩]))
def s_law07_ClearUpdates_p27 : SCode := (.seq (.kp [1, 2, 7, 8, 10, 12, 13, 15] (.seq s_law07_ClearUpdates_p10 (.cond (.t 82) .skip (.exit 2)))) s_law07_ClearUpdates_p26)
def s_law07_ClearUpdates_p28 : SCode := (.seq (.kp [] (.seq (.kp [1, 2, 7, 8, 10, 12, 13, 15] (.region false [⟨some 15, .mv (.v (.int .i64 0)), none, false⟩])) (.block 2 (.loop (some [1, 2, 7, 8, 10, 12, 13, 15]) s_law07_ClearUpdates_p27)))) (.seq (.region false [⟨some 157, .call f_law07_awake [], none, false⟩,
  ⟨some 6, .mv (.t 157), none, false⟩]) .ret))
def s_law07_ClearUpdates_p29 : SCode := (.seq (.kp [1, 2, 3, 7, 8, 9, 10, 11] s_law07_ClearUpdates_p1) (.seq s_law07_ClearUpdates_p3 (.seq (.region false [⟨some 53, .bslice [] 0 1 [], none, false⟩,
  ⟨some 12, .mv (.t 53), none, false⟩]) (.seq s_law07_ClearUpdates_p4 (.seq s_law07_ClearUpdates_p9 s_law07_ClearUpdates_p28)))))
def s_law07_ClearUpdates : SFn := ⟨3, [.t 6], (.seq (.region false [⟨some 3, .box true 4 (.t 0), none, false⟩,
  ⟨some 6, .mv (.v (.bool false)), none, false⟩]) (.seq (.kp [1, 2, 3, 7, 8, 9] s_law07_ClearUpdates_p0) s_law07_ClearUpdates_p29))⟩
def tb : Tbl := fun f => match f with
  | 11 => some s_law07_ClearUpdates
  | 12 => some s_class_May
  | 13 => some s_ref06_May
  | 14 => some s_class_On
  | 15 => some s_ref06_On
  | 16 => some s_class_Foot
  | 17 => some s_ref06_Foot
  | 19 => some s_law06_Both
  | 20 => some s_class_Stands
  | 21 => some s_ref06_Stands
  | 22 => some s_clear_New
  | 23 => some s_law07_awake
  | 24 => some s_ref04_All
  | 25 => some s_ref06_Clear
  | 26 => some s_clear_Field_At
  | 29 => some s_law07_right
  | 30 => some s_clear_Field_Epoch
  | 40 => some s_clear_Field_Update
  | 41 => some s_law07_Does
  | 42 => some s_grid_World_Epoch
  | 43 => some s_cell_May
  | 44 => some s_ref03_May
  | 45 => some s_grid_New
  | 46 => some s_ref04_New
  | 47 => some s_cell_Within
  | 48 => some s_grid_World_All
  | 49 => some s_cell_Cells
  | 50 => some s_grid_World_Terrain
  | 51 => some s_grid_World_At
  | 52 => some s_ref03_Within
  | 53 => some s_ref04_Terrain
  | 54 => some s_ref04_At
  | 55 => some s_clear_Field_reckon
  | 56 => some s_cell_Has
  | 66 => some s_grid_World_Dirty
  | 67 => some s_grid_World_Raze
  | 68 => some s_ref04_Raze
  | 69 => some s_grid_World_Place
  | 70 => some s_ref04_Place
  | 71 => some s_grid_World_is
  | 72 => some s_cell_Near
  | 73 => some s_cell_side
  | 74 => some s_cell_last
  | 75 => some s_ref03_Near
  | 76 => some s_ref03_Last
  | 77 => some s_slices_Clone_byte_byte
  | 78 => some s_ref04_Check
  | 79 => some s_cell_Cells_1
  | 80 => some s_ref03_Has
  | 81 => some s_clear_Field_tile
  | 86 => some s_slices_Clone_api_Rect_api_Rect
  | 87 => some s_ref04_place
  | 88 => some s_grid_World_May
  | 89 => some s_ref04_May
  | 90 => some s_cell_near
  | 91 => some s_ref03_near
  | 92 => some s_ref04_MayBe
  | 93 => some s_ref04_share
  | 94 => some s_grid_may
  | 95 => some s_ref03_Meet
  | _ => none
@[go_sem] def u_cell_near_p0 {F K fr m} := @RK_unf F K fr m _ _ s_cell_near_p0.eq_1
theorem t_cell_near : tb f_cell_near = some s_cell_near := rfl
@[go_sem] def u_cell_Near_p0 {F K fr m} := @RK_unf F K fr m _ _ s_cell_Near_p0.eq_1
theorem t_cell_Near : tb f_cell_Near = some s_cell_Near := rfl
@[go_sem] def u_cell_last_p0 {F K fr m} := @RK_unf F K fr m _ _ s_cell_last_p0.eq_1
theorem t_cell_last : tb f_cell_last = some s_cell_last := rfl
@[go_sem] def u_cell_side_p0 {F K fr m} := @RK_unf F K fr m _ _ s_cell_side_p0.eq_1
theorem t_cell_side : tb f_cell_side = some s_cell_side := rfl
@[go_sem] def u_cell_May_p0 {F K fr m} := @RK_unf F K fr m _ _ s_cell_May_p0.eq_1
theorem t_cell_May : tb f_cell_May = some s_cell_May := rfl
@[go_sem] def u_cell_Has_p0 {F K fr m} := @RK_unf F K fr m _ _ s_cell_Has_p0.eq_1
@[go_sem] def u_cell_Has_p1 {F K fr m} := @RK_unf F K fr m _ _ s_cell_Has_p1.eq_1
@[go_sem] def u_cell_Has_p2 {F K fr m} := @RK_unf F K fr m _ _ s_cell_Has_p2.eq_1
@[go_sem] def u_cell_Has_p3 {F K fr m} := @RK_unf F K fr m _ _ s_cell_Has_p3.eq_1
theorem t_cell_Has : tb f_cell_Has = some s_cell_Has := rfl
@[go_sem] def u_clear_Field_At_p0 {F K fr m} := @RK_unf F K fr m _ _ s_clear_Field_At_p0.eq_1
@[go_sem] def u_clear_Field_At_p1 {F K fr m} := @RK_unf F K fr m _ _ s_clear_Field_At_p1.eq_1
@[go_sem] def u_clear_Field_At_p2 {F K fr m} := @RK_unf F K fr m _ _ s_clear_Field_At_p2.eq_1
theorem t_clear_Field_At : tb f_clear_Field_At = some s_clear_Field_At := rfl
@[go_sem] def u_clear_Field_Epoch_p0 {F K fr m} := @RK_unf F K fr m _ _ s_clear_Field_Epoch_p0.eq_1
@[go_sem] def u_clear_Field_Epoch_p1 {F K fr m} := @RK_unf F K fr m _ _ s_clear_Field_Epoch_p1.eq_1
theorem t_clear_Field_Epoch : tb f_clear_Field_Epoch = some s_clear_Field_Epoch := rfl
@[go_sem] def u_cell_Cells_1_p0 {F K fr m} := @RK_unf F K fr m _ _ s_cell_Cells_1_p0.eq_1
@[go_sem] def u_cell_Cells_1_p1 {F K fr m} := @RK_unf F K fr m _ _ s_cell_Cells_1_p1.eq_1
@[go_sem] def u_cell_Cells_1_p2 {F K fr m} := @RK_unf F K fr m _ _ s_cell_Cells_1_p2.eq_1
@[go_sem] def u_cell_Cells_1_p3 {F K fr m} := @RK_unf F K fr m _ _ s_cell_Cells_1_p3.eq_1
@[go_sem] def u_cell_Cells_1_p4 {F K fr m} := @RK_unf F K fr m _ _ s_cell_Cells_1_p4.eq_1
@[go_sem] def u_cell_Cells_1_p5 {F K fr m} := @RK_unf F K fr m _ _ s_cell_Cells_1_p5.eq_1
@[go_sem] def u_cell_Cells_1_p6 {F K fr m} := @RK_unf F K fr m _ _ s_cell_Cells_1_p6.eq_1
@[go_sem] def u_cell_Cells_1_p7 {F K fr m} := @RK_unf F K fr m _ _ s_cell_Cells_1_p7.eq_1
@[go_sem] def u_cell_Cells_1_p8 {F K fr m} := @RK_unf F K fr m _ _ s_cell_Cells_1_p8.eq_1
@[go_sem] def u_cell_Cells_1_p9 {F K fr m} := @RK_unf F K fr m _ _ s_cell_Cells_1_p9.eq_1
theorem t_cell_Cells_1 : tb f_cell_Cells_1 = some s_cell_Cells_1 := rfl
@[go_sem] def u_cell_Cells_p0 {F K fr m} := @RK_unf F K fr m _ _ s_cell_Cells_p0.eq_1
theorem t_cell_Cells : tb f_cell_Cells = some s_cell_Cells := rfl
@[go_sem] def u_cell_Within_p0 {F K fr m} := @RK_unf F K fr m _ _ s_cell_Within_p0.eq_1
@[go_sem] def u_cell_Within_p1 {F K fr m} := @RK_unf F K fr m _ _ s_cell_Within_p1.eq_1
theorem t_cell_Within : tb f_cell_Within = some s_cell_Within := rfl
@[go_sem] def u_class_May_p0 {F K fr m} := @RK_unf F K fr m _ _ s_class_May_p0.eq_1
theorem t_class_May : tb f_class_May = some s_class_May := rfl
@[go_sem] def u_class_Foot_p0 {F K fr m} := @RK_unf F K fr m _ _ s_class_Foot_p0.eq_1
@[go_sem] def u_class_Foot_p1 {F K fr m} := @RK_unf F K fr m _ _ s_class_Foot_p1.eq_1
@[go_sem] def u_class_Foot_p2 {F K fr m} := @RK_unf F K fr m _ _ s_class_Foot_p2.eq_1
@[go_sem] def u_class_Foot_p3 {F K fr m} := @RK_unf F K fr m _ _ s_class_Foot_p3.eq_1
@[go_sem] def u_class_Foot_p4 {F K fr m} := @RK_unf F K fr m _ _ s_class_Foot_p4.eq_1
theorem t_class_Foot : tb f_class_Foot = some s_class_Foot := rfl
@[go_sem] def u_class_On_p0 {F K fr m} := @RK_unf F K fr m _ _ s_class_On_p0.eq_1
@[go_sem] def u_class_On_p1 {F K fr m} := @RK_unf F K fr m _ _ s_class_On_p1.eq_1
theorem t_class_On : tb f_class_On = some s_class_On := rfl
@[go_sem] def u_grid_World_is_p0 {F K fr m} := @RK_unf F K fr m _ _ s_grid_World_is_p0.eq_1
theorem t_grid_World_is : tb f_grid_World_is = some s_grid_World_is := rfl
@[go_sem] def u_grid_World_All_p0 {F K fr m} := @RK_unf F K fr m _ _ s_grid_World_All_p0.eq_1
@[go_sem] def u_grid_World_All_p1 {F K fr m} := @RK_unf F K fr m _ _ s_grid_World_All_p1.eq_1
@[go_sem] def u_grid_World_All_p2 {F K fr m} := @RK_unf F K fr m _ _ s_grid_World_All_p2.eq_1
theorem t_grid_World_All : tb f_grid_World_All = some s_grid_World_All := rfl
@[go_sem] def u_grid_World_At_p0 {F K fr m} := @RK_unf F K fr m _ _ s_grid_World_At_p0.eq_1
@[go_sem] def u_grid_World_At_p1 {F K fr m} := @RK_unf F K fr m _ _ s_grid_World_At_p1.eq_1
@[go_sem] def u_grid_World_At_p2 {F K fr m} := @RK_unf F K fr m _ _ s_grid_World_At_p2.eq_1
@[go_sem] def u_grid_World_At_p3 {F K fr m} := @RK_unf F K fr m _ _ s_grid_World_At_p3.eq_1
theorem t_grid_World_At : tb f_grid_World_At = some s_grid_World_At := rfl
@[go_sem] def u_grid_World_Terrain_p0 {F K fr m} := @RK_unf F K fr m _ _ s_grid_World_Terrain_p0.eq_1
@[go_sem] def u_grid_World_Terrain_p1 {F K fr m} := @RK_unf F K fr m _ _ s_grid_World_Terrain_p1.eq_1
@[go_sem] def u_grid_World_Terrain_p2 {F K fr m} := @RK_unf F K fr m _ _ s_grid_World_Terrain_p2.eq_1
@[go_sem] def u_grid_World_Terrain_p3 {F K fr m} := @RK_unf F K fr m _ _ s_grid_World_Terrain_p3.eq_1
theorem t_grid_World_Terrain : tb f_grid_World_Terrain = some s_grid_World_Terrain := rfl
@[go_sem] def u_class_Stands_p0 {F K fr m} := @RK_unf F K fr m _ _ s_class_Stands_p0.eq_1
@[go_sem] def u_class_Stands_p1 {F K fr m} := @RK_unf F K fr m _ _ s_class_Stands_p1.eq_1
@[go_sem] def u_class_Stands_p2 {F K fr m} := @RK_unf F K fr m _ _ s_class_Stands_p2.eq_1
@[go_sem] def u_class_Stands_p3 {F K fr m} := @RK_unf F K fr m _ _ s_class_Stands_p3.eq_1
@[go_sem] def u_class_Stands_p4 {F K fr m} := @RK_unf F K fr m _ _ s_class_Stands_p4.eq_1
@[go_sem] def u_class_Stands_p5 {F K fr m} := @RK_unf F K fr m _ _ s_class_Stands_p5.eq_1
@[go_sem] def u_class_Stands_p6 {F K fr m} := @RK_unf F K fr m _ _ s_class_Stands_p6.eq_1
@[go_sem] def u_class_Stands_p7 {F K fr m} := @RK_unf F K fr m _ _ s_class_Stands_p7.eq_1
@[go_sem] def u_class_Stands_p8 {F K fr m} := @RK_unf F K fr m _ _ s_class_Stands_p8.eq_1
@[go_sem] def u_class_Stands_p9 {F K fr m} := @RK_unf F K fr m _ _ s_class_Stands_p9.eq_1
@[go_sem] def u_class_Stands_p10 {F K fr m} := @RK_unf F K fr m _ _ s_class_Stands_p10.eq_1
theorem t_class_Stands : tb f_class_Stands = some s_class_Stands := rfl
@[go_sem] def u_clear_Field_tile_p0 {F K fr m} := @RK_unf F K fr m _ _ s_clear_Field_tile_p0.eq_1
theorem t_clear_Field_tile : tb f_clear_Field_tile = some s_clear_Field_tile := rfl
@[go_sem] def u_clear_Field_reckon_p0 {F K fr m} := @RK_unf F K fr m _ _ s_clear_Field_reckon_p0.eq_1
@[go_sem] def u_clear_Field_reckon_p1 {F K fr m} := @RK_unf F K fr m _ _ s_clear_Field_reckon_p1.eq_1
@[go_sem] def u_clear_Field_reckon_p2 {F K fr m} := @RK_unf F K fr m _ _ s_clear_Field_reckon_p2.eq_1
@[go_sem] def u_clear_Field_reckon_p3 {F K fr m} := @RK_unf F K fr m _ _ s_clear_Field_reckon_p3.eq_1
@[go_sem] def u_clear_Field_reckon_p4 {F K fr m} := @RK_unf F K fr m _ _ s_clear_Field_reckon_p4.eq_1
@[go_sem] def u_clear_Field_reckon_p5 {F K fr m} := @RK_unf F K fr m _ _ s_clear_Field_reckon_p5.eq_1
@[go_sem] def u_clear_Field_reckon_p6 {F K fr m} := @RK_unf F K fr m _ _ s_clear_Field_reckon_p6.eq_1
@[go_sem] def u_clear_Field_reckon_p7 {F K fr m} := @RK_unf F K fr m _ _ s_clear_Field_reckon_p7.eq_1
@[go_sem] def u_clear_Field_reckon_p8 {F K fr m} := @RK_unf F K fr m _ _ s_clear_Field_reckon_p8.eq_1
@[go_sem] def u_clear_Field_reckon_p9 {F K fr m} := @RK_unf F K fr m _ _ s_clear_Field_reckon_p9.eq_1
@[go_sem] def u_clear_Field_reckon_p10 {F K fr m} := @RK_unf F K fr m _ _ s_clear_Field_reckon_p10.eq_1
@[go_sem] def u_clear_Field_reckon_p11 {F K fr m} := @RK_unf F K fr m _ _ s_clear_Field_reckon_p11.eq_1
@[go_sem] def u_clear_Field_reckon_p12 {F K fr m} := @RK_unf F K fr m _ _ s_clear_Field_reckon_p12.eq_1
@[go_sem] def u_clear_Field_reckon_p13 {F K fr m} := @RK_unf F K fr m _ _ s_clear_Field_reckon_p13.eq_1
@[go_sem] def u_clear_Field_reckon_p14 {F K fr m} := @RK_unf F K fr m _ _ s_clear_Field_reckon_p14.eq_1
@[go_sem] def u_clear_Field_reckon_p15 {F K fr m} := @RK_unf F K fr m _ _ s_clear_Field_reckon_p15.eq_1
@[go_sem] def u_clear_Field_reckon_p16 {F K fr m} := @RK_unf F K fr m _ _ s_clear_Field_reckon_p16.eq_1
@[go_sem] def u_clear_Field_reckon_p17 {F K fr m} := @RK_unf F K fr m _ _ s_clear_Field_reckon_p17.eq_1
theorem t_clear_Field_reckon : tb f_clear_Field_reckon = some s_clear_Field_reckon := rfl
@[go_sem] def u_slices_Clone_api_Rect_api_Rect_p0 {F K fr m} := @RK_unf F K fr m _ _ s_slices_Clone_api_Rect_api_Rect_p0.eq_1
@[go_sem] def u_slices_Clone_api_Rect_api_Rect_p1 {F K fr m} := @RK_unf F K fr m _ _ s_slices_Clone_api_Rect_api_Rect_p1.eq_1
theorem t_slices_Clone_api_Rect_api_Rect : tb f_slices_Clone_api_Rect_api_Rect = some s_slices_Clone_api_Rect_api_Rect := rfl
@[go_sem] def u_grid_World_Dirty_p0 {F K fr m} := @RK_unf F K fr m _ _ s_grid_World_Dirty_p0.eq_1
@[go_sem] def u_grid_World_Dirty_p1 {F K fr m} := @RK_unf F K fr m _ _ s_grid_World_Dirty_p1.eq_1
@[go_sem] def u_grid_World_Dirty_p2 {F K fr m} := @RK_unf F K fr m _ _ s_grid_World_Dirty_p2.eq_1
theorem t_grid_World_Dirty : tb f_grid_World_Dirty = some s_grid_World_Dirty := rfl
@[go_sem] def u_grid_World_Epoch_p0 {F K fr m} := @RK_unf F K fr m _ _ s_grid_World_Epoch_p0.eq_1
@[go_sem] def u_grid_World_Epoch_p1 {F K fr m} := @RK_unf F K fr m _ _ s_grid_World_Epoch_p1.eq_1
theorem t_grid_World_Epoch : tb f_grid_World_Epoch = some s_grid_World_Epoch := rfl
@[go_sem] def u_clear_Field_Update_p0 {F K fr m} := @RK_unf F K fr m _ _ s_clear_Field_Update_p0.eq_1
@[go_sem] def u_clear_Field_Update_p1 {F K fr m} := @RK_unf F K fr m _ _ s_clear_Field_Update_p1.eq_1
@[go_sem] def u_clear_Field_Update_p2 {F K fr m} := @RK_unf F K fr m _ _ s_clear_Field_Update_p2.eq_1
@[go_sem] def u_clear_Field_Update_p3 {F K fr m} := @RK_unf F K fr m _ _ s_clear_Field_Update_p3.eq_1
@[go_sem] def u_clear_Field_Update_p4 {F K fr m} := @RK_unf F K fr m _ _ s_clear_Field_Update_p4.eq_1
@[go_sem] def u_clear_Field_Update_p5 {F K fr m} := @RK_unf F K fr m _ _ s_clear_Field_Update_p5.eq_1
@[go_sem] def u_clear_Field_Update_p6 {F K fr m} := @RK_unf F K fr m _ _ s_clear_Field_Update_p6.eq_1
@[go_sem] def u_clear_Field_Update_p7 {F K fr m} := @RK_unf F K fr m _ _ s_clear_Field_Update_p7.eq_1
@[go_sem] def u_clear_Field_Update_p8 {F K fr m} := @RK_unf F K fr m _ _ s_clear_Field_Update_p8.eq_1
@[go_sem] def u_clear_Field_Update_p9 {F K fr m} := @RK_unf F K fr m _ _ s_clear_Field_Update_p9.eq_1
@[go_sem] def u_clear_Field_Update_p10 {F K fr m} := @RK_unf F K fr m _ _ s_clear_Field_Update_p10.eq_1
@[go_sem] def u_clear_Field_Update_p11 {F K fr m} := @RK_unf F K fr m _ _ s_clear_Field_Update_p11.eq_1
@[go_sem] def u_clear_Field_Update_p12 {F K fr m} := @RK_unf F K fr m _ _ s_clear_Field_Update_p12.eq_1
@[go_sem] def u_clear_Field_Update_p13 {F K fr m} := @RK_unf F K fr m _ _ s_clear_Field_Update_p13.eq_1
@[go_sem] def u_clear_Field_Update_p14 {F K fr m} := @RK_unf F K fr m _ _ s_clear_Field_Update_p14.eq_1
@[go_sem] def u_clear_Field_Update_p15 {F K fr m} := @RK_unf F K fr m _ _ s_clear_Field_Update_p15.eq_1
@[go_sem] def u_clear_Field_Update_p16 {F K fr m} := @RK_unf F K fr m _ _ s_clear_Field_Update_p16.eq_1
@[go_sem] def u_clear_Field_Update_p17 {F K fr m} := @RK_unf F K fr m _ _ s_clear_Field_Update_p17.eq_1
@[go_sem] def u_clear_Field_Update_p18 {F K fr m} := @RK_unf F K fr m _ _ s_clear_Field_Update_p18.eq_1
@[go_sem] def u_clear_Field_Update_p19 {F K fr m} := @RK_unf F K fr m _ _ s_clear_Field_Update_p19.eq_1
@[go_sem] def u_clear_Field_Update_p20 {F K fr m} := @RK_unf F K fr m _ _ s_clear_Field_Update_p20.eq_1
@[go_sem] def u_clear_Field_Update_p21 {F K fr m} := @RK_unf F K fr m _ _ s_clear_Field_Update_p21.eq_1
@[go_sem] def u_clear_Field_Update_p22 {F K fr m} := @RK_unf F K fr m _ _ s_clear_Field_Update_p22.eq_1
theorem t_clear_Field_Update : tb f_clear_Field_Update = some s_clear_Field_Update := rfl
@[go_sem] def u_clear_New_p0 {F K fr m} := @RK_unf F K fr m _ _ s_clear_New_p0.eq_1
@[go_sem] def u_clear_New_p1 {F K fr m} := @RK_unf F K fr m _ _ s_clear_New_p1.eq_1
@[go_sem] def u_clear_New_p2 {F K fr m} := @RK_unf F K fr m _ _ s_clear_New_p2.eq_1
@[go_sem] def u_clear_New_p3 {F K fr m} := @RK_unf F K fr m _ _ s_clear_New_p3.eq_1
@[go_sem] def u_clear_New_p4 {F K fr m} := @RK_unf F K fr m _ _ s_clear_New_p4.eq_1
theorem t_clear_New : tb f_clear_New = some s_clear_New := rfl
@[go_sem] def u_grid_may_p0 {F K fr m} := @RK_unf F K fr m _ _ s_grid_may_p0.eq_1
@[go_sem] def u_grid_may_p1 {F K fr m} := @RK_unf F K fr m _ _ s_grid_may_p1.eq_1
theorem t_grid_may : tb f_grid_may = some s_grid_may := rfl
@[go_sem] def u_grid_World_May_p0 {F K fr m} := @RK_unf F K fr m _ _ s_grid_World_May_p0.eq_1
@[go_sem] def u_grid_World_May_p1 {F K fr m} := @RK_unf F K fr m _ _ s_grid_World_May_p1.eq_1
@[go_sem] def u_grid_World_May_p2 {F K fr m} := @RK_unf F K fr m _ _ s_grid_World_May_p2.eq_1
@[go_sem] def u_grid_World_May_p3 {F K fr m} := @RK_unf F K fr m _ _ s_grid_World_May_p3.eq_1
@[go_sem] def u_grid_World_May_p4 {F K fr m} := @RK_unf F K fr m _ _ s_grid_World_May_p4.eq_1
@[go_sem] def u_grid_World_May_p5 {F K fr m} := @RK_unf F K fr m _ _ s_grid_World_May_p5.eq_1
@[go_sem] def u_grid_World_May_p6 {F K fr m} := @RK_unf F K fr m _ _ s_grid_World_May_p6.eq_1
@[go_sem] def u_grid_World_May_p7 {F K fr m} := @RK_unf F K fr m _ _ s_grid_World_May_p7.eq_1
@[go_sem] def u_grid_World_May_p8 {F K fr m} := @RK_unf F K fr m _ _ s_grid_World_May_p8.eq_1
@[go_sem] def u_grid_World_May_p9 {F K fr m} := @RK_unf F K fr m _ _ s_grid_World_May_p9.eq_1
@[go_sem] def u_grid_World_May_p10 {F K fr m} := @RK_unf F K fr m _ _ s_grid_World_May_p10.eq_1
theorem t_grid_World_May : tb f_grid_World_May = some s_grid_World_May := rfl
@[go_sem] def u_grid_World_Place_p0 {F K fr m} := @RK_unf F K fr m _ _ s_grid_World_Place_p0.eq_1
@[go_sem] def u_grid_World_Place_p1 {F K fr m} := @RK_unf F K fr m _ _ s_grid_World_Place_p1.eq_1
@[go_sem] def u_grid_World_Place_p2 {F K fr m} := @RK_unf F K fr m _ _ s_grid_World_Place_p2.eq_1
@[go_sem] def u_grid_World_Place_p3 {F K fr m} := @RK_unf F K fr m _ _ s_grid_World_Place_p3.eq_1
@[go_sem] def u_grid_World_Place_p4 {F K fr m} := @RK_unf F K fr m _ _ s_grid_World_Place_p4.eq_1
@[go_sem] def u_grid_World_Place_p5 {F K fr m} := @RK_unf F K fr m _ _ s_grid_World_Place_p5.eq_1
@[go_sem] def u_grid_World_Place_p6 {F K fr m} := @RK_unf F K fr m _ _ s_grid_World_Place_p6.eq_1
@[go_sem] def u_grid_World_Place_p7 {F K fr m} := @RK_unf F K fr m _ _ s_grid_World_Place_p7.eq_1
@[go_sem] def u_grid_World_Place_p8 {F K fr m} := @RK_unf F K fr m _ _ s_grid_World_Place_p8.eq_1
theorem t_grid_World_Place : tb f_grid_World_Place = some s_grid_World_Place := rfl
@[go_sem] def u_slices_Clone_byte_byte_p0 {F K fr m} := @RK_unf F K fr m _ _ s_slices_Clone_byte_byte_p0.eq_1
@[go_sem] def u_slices_Clone_byte_byte_p1 {F K fr m} := @RK_unf F K fr m _ _ s_slices_Clone_byte_byte_p1.eq_1
theorem t_slices_Clone_byte_byte : tb f_slices_Clone_byte_byte = some s_slices_Clone_byte_byte := rfl
@[go_sem] def u_grid_New_p0 {F K fr m} := @RK_unf F K fr m _ _ s_grid_New_p0.eq_1
@[go_sem] def u_grid_New_p1 {F K fr m} := @RK_unf F K fr m _ _ s_grid_New_p1.eq_1
@[go_sem] def u_grid_New_p2 {F K fr m} := @RK_unf F K fr m _ _ s_grid_New_p2.eq_1
@[go_sem] def u_grid_New_p3 {F K fr m} := @RK_unf F K fr m _ _ s_grid_New_p3.eq_1
@[go_sem] def u_grid_New_p4 {F K fr m} := @RK_unf F K fr m _ _ s_grid_New_p4.eq_1
@[go_sem] def u_grid_New_p5 {F K fr m} := @RK_unf F K fr m _ _ s_grid_New_p5.eq_1
@[go_sem] def u_grid_New_p6 {F K fr m} := @RK_unf F K fr m _ _ s_grid_New_p6.eq_1
@[go_sem] def u_grid_New_p7 {F K fr m} := @RK_unf F K fr m _ _ s_grid_New_p7.eq_1
@[go_sem] def u_grid_New_p8 {F K fr m} := @RK_unf F K fr m _ _ s_grid_New_p8.eq_1
@[go_sem] def u_grid_New_p9 {F K fr m} := @RK_unf F K fr m _ _ s_grid_New_p9.eq_1
@[go_sem] def u_grid_New_p10 {F K fr m} := @RK_unf F K fr m _ _ s_grid_New_p10.eq_1
@[go_sem] def u_grid_New_p11 {F K fr m} := @RK_unf F K fr m _ _ s_grid_New_p11.eq_1
@[go_sem] def u_grid_New_p12 {F K fr m} := @RK_unf F K fr m _ _ s_grid_New_p12.eq_1
@[go_sem] def u_grid_New_p13 {F K fr m} := @RK_unf F K fr m _ _ s_grid_New_p13.eq_1
@[go_sem] def u_grid_New_p14 {F K fr m} := @RK_unf F K fr m _ _ s_grid_New_p14.eq_1
@[go_sem] def u_grid_New_p15 {F K fr m} := @RK_unf F K fr m _ _ s_grid_New_p15.eq_1
@[go_sem] def u_grid_New_p16 {F K fr m} := @RK_unf F K fr m _ _ s_grid_New_p16.eq_1
@[go_sem] def u_grid_New_p17 {F K fr m} := @RK_unf F K fr m _ _ s_grid_New_p17.eq_1
theorem t_grid_New : tb f_grid_New = some s_grid_New := rfl
@[go_sem] def u_ref03_Last_p0 {F K fr m} := @RK_unf F K fr m _ _ s_ref03_Last_p0.eq_1
theorem t_ref03_Last : tb f_ref03_Last = some s_ref03_Last := rfl
@[go_sem] def u_ref03_near_p0 {F K fr m} := @RK_unf F K fr m _ _ s_ref03_near_p0.eq_1
theorem t_ref03_near : tb f_ref03_near = some s_ref03_near := rfl
@[go_sem] def u_ref03_Near_p0 {F K fr m} := @RK_unf F K fr m _ _ s_ref03_Near_p0.eq_1
theorem t_ref03_Near : tb f_ref03_Near = some s_ref03_Near := rfl
@[go_sem] def u_ref03_May_p0 {F K fr m} := @RK_unf F K fr m _ _ s_ref03_May_p0.eq_1
theorem t_ref03_May : tb f_ref03_May = some s_ref03_May := rfl
@[go_sem] def u_ref03_Has_p0 {F K fr m} := @RK_unf F K fr m _ _ s_ref03_Has_p0.eq_1
@[go_sem] def u_ref03_Has_p1 {F K fr m} := @RK_unf F K fr m _ _ s_ref03_Has_p1.eq_1
theorem t_ref03_Has : tb f_ref03_Has = some s_ref03_Has := rfl
@[go_sem] def u_ref03_Within_p0 {F K fr m} := @RK_unf F K fr m _ _ s_ref03_Within_p0.eq_1
@[go_sem] def u_ref03_Within_p1 {F K fr m} := @RK_unf F K fr m _ _ s_ref03_Within_p1.eq_1
theorem t_ref03_Within : tb f_ref03_Within = some s_ref03_Within := rfl
@[go_sem] def u_ref04_MayBe_p0 {F K fr m} := @RK_unf F K fr m _ _ s_ref04_MayBe_p0.eq_1
@[go_sem] def u_ref04_MayBe_p1 {F K fr m} := @RK_unf F K fr m _ _ s_ref04_MayBe_p1.eq_1
theorem t_ref04_MayBe : tb f_ref04_MayBe = some s_ref04_MayBe := rfl
@[go_sem] def u_ref03_Meet_p0 {F K fr m} := @RK_unf F K fr m _ _ s_ref03_Meet_p0.eq_1
@[go_sem] def u_ref03_Meet_p1 {F K fr m} := @RK_unf F K fr m _ _ s_ref03_Meet_p1.eq_1
@[go_sem] def u_ref03_Meet_p2 {F K fr m} := @RK_unf F K fr m _ _ s_ref03_Meet_p2.eq_1
@[go_sem] def u_ref03_Meet_p3 {F K fr m} := @RK_unf F K fr m _ _ s_ref03_Meet_p3.eq_1
@[go_sem] def u_ref03_Meet_p4 {F K fr m} := @RK_unf F K fr m _ _ s_ref03_Meet_p4.eq_1
@[go_sem] def u_ref03_Meet_p5 {F K fr m} := @RK_unf F K fr m _ _ s_ref03_Meet_p5.eq_1
@[go_sem] def u_ref03_Meet_p6 {F K fr m} := @RK_unf F K fr m _ _ s_ref03_Meet_p6.eq_1
@[go_sem] def u_ref03_Meet_p7 {F K fr m} := @RK_unf F K fr m _ _ s_ref03_Meet_p7.eq_1
@[go_sem] def u_ref03_Meet_p8 {F K fr m} := @RK_unf F K fr m _ _ s_ref03_Meet_p8.eq_1
@[go_sem] def u_ref03_Meet_p9 {F K fr m} := @RK_unf F K fr m _ _ s_ref03_Meet_p9.eq_1
@[go_sem] def u_ref03_Meet_p10 {F K fr m} := @RK_unf F K fr m _ _ s_ref03_Meet_p10.eq_1
@[go_sem] def u_ref03_Meet_p11 {F K fr m} := @RK_unf F K fr m _ _ s_ref03_Meet_p11.eq_1
@[go_sem] def u_ref03_Meet_p12 {F K fr m} := @RK_unf F K fr m _ _ s_ref03_Meet_p12.eq_1
@[go_sem] def u_ref03_Meet_p13 {F K fr m} := @RK_unf F K fr m _ _ s_ref03_Meet_p13.eq_1
@[go_sem] def u_ref03_Meet_p14 {F K fr m} := @RK_unf F K fr m _ _ s_ref03_Meet_p14.eq_1
@[go_sem] def u_ref03_Meet_p15 {F K fr m} := @RK_unf F K fr m _ _ s_ref03_Meet_p15.eq_1
@[go_sem] def u_ref03_Meet_p16 {F K fr m} := @RK_unf F K fr m _ _ s_ref03_Meet_p16.eq_1
@[go_sem] def u_ref03_Meet_p17 {F K fr m} := @RK_unf F K fr m _ _ s_ref03_Meet_p17.eq_1
@[go_sem] def u_ref03_Meet_p18 {F K fr m} := @RK_unf F K fr m _ _ s_ref03_Meet_p18.eq_1
theorem t_ref03_Meet : tb f_ref03_Meet = some s_ref03_Meet := rfl
@[go_sem] def u_ref04_share_p0 {F K fr m} := @RK_unf F K fr m _ _ s_ref04_share_p0.eq_1
@[go_sem] def u_ref04_share_p1 {F K fr m} := @RK_unf F K fr m _ _ s_ref04_share_p1.eq_1
theorem t_ref04_share : tb f_ref04_share = some s_ref04_share := rfl
@[go_sem] def u_ref04_Check_p0 {F K fr m} := @RK_unf F K fr m _ _ s_ref04_Check_p0.eq_1
@[go_sem] def u_ref04_Check_p1 {F K fr m} := @RK_unf F K fr m _ _ s_ref04_Check_p1.eq_1
@[go_sem] def u_ref04_Check_p2 {F K fr m} := @RK_unf F K fr m _ _ s_ref04_Check_p2.eq_1
@[go_sem] def u_ref04_Check_p3 {F K fr m} := @RK_unf F K fr m _ _ s_ref04_Check_p3.eq_1
@[go_sem] def u_ref04_Check_p4 {F K fr m} := @RK_unf F K fr m _ _ s_ref04_Check_p4.eq_1
@[go_sem] def u_ref04_Check_p5 {F K fr m} := @RK_unf F K fr m _ _ s_ref04_Check_p5.eq_1
@[go_sem] def u_ref04_Check_p6 {F K fr m} := @RK_unf F K fr m _ _ s_ref04_Check_p6.eq_1
@[go_sem] def u_ref04_Check_p7 {F K fr m} := @RK_unf F K fr m _ _ s_ref04_Check_p7.eq_1
@[go_sem] def u_ref04_Check_p8 {F K fr m} := @RK_unf F K fr m _ _ s_ref04_Check_p8.eq_1
@[go_sem] def u_ref04_Check_p9 {F K fr m} := @RK_unf F K fr m _ _ s_ref04_Check_p9.eq_1
@[go_sem] def u_ref04_Check_p10 {F K fr m} := @RK_unf F K fr m _ _ s_ref04_Check_p10.eq_1
@[go_sem] def u_ref04_Check_p11 {F K fr m} := @RK_unf F K fr m _ _ s_ref04_Check_p11.eq_1
@[go_sem] def u_ref04_Check_p12 {F K fr m} := @RK_unf F K fr m _ _ s_ref04_Check_p12.eq_1
@[go_sem] def u_ref04_Check_p13 {F K fr m} := @RK_unf F K fr m _ _ s_ref04_Check_p13.eq_1
@[go_sem] def u_ref04_Check_p14 {F K fr m} := @RK_unf F K fr m _ _ s_ref04_Check_p14.eq_1
@[go_sem] def u_ref04_Check_p15 {F K fr m} := @RK_unf F K fr m _ _ s_ref04_Check_p15.eq_1
theorem t_ref04_Check : tb f_ref04_Check = some s_ref04_Check := rfl
@[go_sem] def u_ref04_New_p0 {F K fr m} := @RK_unf F K fr m _ _ s_ref04_New_p0.eq_1
@[go_sem] def u_ref04_New_p1 {F K fr m} := @RK_unf F K fr m _ _ s_ref04_New_p1.eq_1
@[go_sem] def u_ref04_New_p2 {F K fr m} := @RK_unf F K fr m _ _ s_ref04_New_p2.eq_1
@[go_sem] def u_ref04_New_p3 {F K fr m} := @RK_unf F K fr m _ _ s_ref04_New_p3.eq_1
@[go_sem] def u_ref04_New_p4 {F K fr m} := @RK_unf F K fr m _ _ s_ref04_New_p4.eq_1
@[go_sem] def u_ref04_New_p5 {F K fr m} := @RK_unf F K fr m _ _ s_ref04_New_p5.eq_1
theorem t_ref04_New : tb f_ref04_New = some s_ref04_New := rfl
@[go_sem] def u_law06_Both_p0 {F K fr m} := @RK_unf F K fr m _ _ s_law06_Both_p0.eq_1
@[go_sem] def u_law06_Both_p1 {F K fr m} := @RK_unf F K fr m _ _ s_law06_Both_p1.eq_1
@[go_sem] def u_law06_Both_p2 {F K fr m} := @RK_unf F K fr m _ _ s_law06_Both_p2.eq_1
@[go_sem] def u_law06_Both_p3 {F K fr m} := @RK_unf F K fr m _ _ s_law06_Both_p3.eq_1
theorem t_law06_Both : tb f_law06_Both = some s_law06_Both := rfl
@[go_sem] def u_grid_World_Raze_p0 {F K fr m} := @RK_unf F K fr m _ _ s_grid_World_Raze_p0.eq_1
@[go_sem] def u_grid_World_Raze_p1 {F K fr m} := @RK_unf F K fr m _ _ s_grid_World_Raze_p1.eq_1
@[go_sem] def u_grid_World_Raze_p2 {F K fr m} := @RK_unf F K fr m _ _ s_grid_World_Raze_p2.eq_1
@[go_sem] def u_grid_World_Raze_p3 {F K fr m} := @RK_unf F K fr m _ _ s_grid_World_Raze_p3.eq_1
@[go_sem] def u_grid_World_Raze_p4 {F K fr m} := @RK_unf F K fr m _ _ s_grid_World_Raze_p4.eq_1
@[go_sem] def u_grid_World_Raze_p5 {F K fr m} := @RK_unf F K fr m _ _ s_grid_World_Raze_p5.eq_1
@[go_sem] def u_grid_World_Raze_p6 {F K fr m} := @RK_unf F K fr m _ _ s_grid_World_Raze_p6.eq_1
@[go_sem] def u_grid_World_Raze_p7 {F K fr m} := @RK_unf F K fr m _ _ s_grid_World_Raze_p7.eq_1
@[go_sem] def u_grid_World_Raze_p8 {F K fr m} := @RK_unf F K fr m _ _ s_grid_World_Raze_p8.eq_1
@[go_sem] def u_grid_World_Raze_p9 {F K fr m} := @RK_unf F K fr m _ _ s_grid_World_Raze_p9.eq_1
@[go_sem] def u_grid_World_Raze_p10 {F K fr m} := @RK_unf F K fr m _ _ s_grid_World_Raze_p10.eq_1
@[go_sem] def u_grid_World_Raze_p11 {F K fr m} := @RK_unf F K fr m _ _ s_grid_World_Raze_p11.eq_1
@[go_sem] def u_grid_World_Raze_p12 {F K fr m} := @RK_unf F K fr m _ _ s_grid_World_Raze_p12.eq_1
theorem t_grid_World_Raze : tb f_grid_World_Raze = some s_grid_World_Raze := rfl
@[go_sem] def u_ref04_All_p0 {F K fr m} := @RK_unf F K fr m _ _ s_ref04_All_p0.eq_1
theorem t_ref04_All : tb f_ref04_All = some s_ref04_All := rfl
@[go_sem] def u_ref04_place_p0 {F K fr m} := @RK_unf F K fr m _ _ s_ref04_place_p0.eq_1
@[go_sem] def u_ref04_place_p1 {F K fr m} := @RK_unf F K fr m _ _ s_ref04_place_p1.eq_1
@[go_sem] def u_ref04_place_p2 {F K fr m} := @RK_unf F K fr m _ _ s_ref04_place_p2.eq_1
@[go_sem] def u_ref04_place_p3 {F K fr m} := @RK_unf F K fr m _ _ s_ref04_place_p3.eq_1
@[go_sem] def u_ref04_place_p4 {F K fr m} := @RK_unf F K fr m _ _ s_ref04_place_p4.eq_1
theorem t_ref04_place : tb f_ref04_place = some s_ref04_place := rfl
@[go_sem] def u_ref04_May_p0 {F K fr m} := @RK_unf F K fr m _ _ s_ref04_May_p0.eq_1
@[go_sem] def u_ref04_May_p1 {F K fr m} := @RK_unf F K fr m _ _ s_ref04_May_p1.eq_1
@[go_sem] def u_ref04_May_p2 {F K fr m} := @RK_unf F K fr m _ _ s_ref04_May_p2.eq_1
@[go_sem] def u_ref04_May_p3 {F K fr m} := @RK_unf F K fr m _ _ s_ref04_May_p3.eq_1
@[go_sem] def u_ref04_May_p4 {F K fr m} := @RK_unf F K fr m _ _ s_ref04_May_p4.eq_1
@[go_sem] def u_ref04_May_p5 {F K fr m} := @RK_unf F K fr m _ _ s_ref04_May_p5.eq_1
@[go_sem] def u_ref04_May_p6 {F K fr m} := @RK_unf F K fr m _ _ s_ref04_May_p6.eq_1
@[go_sem] def u_ref04_May_p7 {F K fr m} := @RK_unf F K fr m _ _ s_ref04_May_p7.eq_1
@[go_sem] def u_ref04_May_p8 {F K fr m} := @RK_unf F K fr m _ _ s_ref04_May_p8.eq_1
@[go_sem] def u_ref04_May_p9 {F K fr m} := @RK_unf F K fr m _ _ s_ref04_May_p9.eq_1
theorem t_ref04_May : tb f_ref04_May = some s_ref04_May := rfl
@[go_sem] def u_ref04_Place_p0 {F K fr m} := @RK_unf F K fr m _ _ s_ref04_Place_p0.eq_1
@[go_sem] def u_ref04_Place_p1 {F K fr m} := @RK_unf F K fr m _ _ s_ref04_Place_p1.eq_1
@[go_sem] def u_ref04_Place_p2 {F K fr m} := @RK_unf F K fr m _ _ s_ref04_Place_p2.eq_1
@[go_sem] def u_ref04_Place_p3 {F K fr m} := @RK_unf F K fr m _ _ s_ref04_Place_p3.eq_1
@[go_sem] def u_ref04_Place_p4 {F K fr m} := @RK_unf F K fr m _ _ s_ref04_Place_p4.eq_1
@[go_sem] def u_ref04_Place_p5 {F K fr m} := @RK_unf F K fr m _ _ s_ref04_Place_p5.eq_1
@[go_sem] def u_ref04_Place_p6 {F K fr m} := @RK_unf F K fr m _ _ s_ref04_Place_p6.eq_1
@[go_sem] def u_ref04_Place_p7 {F K fr m} := @RK_unf F K fr m _ _ s_ref04_Place_p7.eq_1
@[go_sem] def u_ref04_Place_p8 {F K fr m} := @RK_unf F K fr m _ _ s_ref04_Place_p8.eq_1
@[go_sem] def u_ref04_Place_p9 {F K fr m} := @RK_unf F K fr m _ _ s_ref04_Place_p9.eq_1
@[go_sem] def u_ref04_Place_p10 {F K fr m} := @RK_unf F K fr m _ _ s_ref04_Place_p10.eq_1
theorem t_ref04_Place : tb f_ref04_Place = some s_ref04_Place := rfl
@[go_sem] def u_ref04_Raze_p0 {F K fr m} := @RK_unf F K fr m _ _ s_ref04_Raze_p0.eq_1
@[go_sem] def u_ref04_Raze_p1 {F K fr m} := @RK_unf F K fr m _ _ s_ref04_Raze_p1.eq_1
@[go_sem] def u_ref04_Raze_p2 {F K fr m} := @RK_unf F K fr m _ _ s_ref04_Raze_p2.eq_1
@[go_sem] def u_ref04_Raze_p3 {F K fr m} := @RK_unf F K fr m _ _ s_ref04_Raze_p3.eq_1
@[go_sem] def u_ref04_Raze_p4 {F K fr m} := @RK_unf F K fr m _ _ s_ref04_Raze_p4.eq_1
@[go_sem] def u_ref04_Raze_p5 {F K fr m} := @RK_unf F K fr m _ _ s_ref04_Raze_p5.eq_1
@[go_sem] def u_ref04_Raze_p6 {F K fr m} := @RK_unf F K fr m _ _ s_ref04_Raze_p6.eq_1
@[go_sem] def u_ref04_Raze_p7 {F K fr m} := @RK_unf F K fr m _ _ s_ref04_Raze_p7.eq_1
@[go_sem] def u_ref04_Raze_p8 {F K fr m} := @RK_unf F K fr m _ _ s_ref04_Raze_p8.eq_1
theorem t_ref04_Raze : tb f_ref04_Raze = some s_ref04_Raze := rfl
@[go_sem] def u_law07_Does_p0 {F K fr m} := @RK_unf F K fr m _ _ s_law07_Does_p0.eq_1
@[go_sem] def u_law07_Does_p1 {F K fr m} := @RK_unf F K fr m _ _ s_law07_Does_p1.eq_1
@[go_sem] def u_law07_Does_p2 {F K fr m} := @RK_unf F K fr m _ _ s_law07_Does_p2.eq_1
@[go_sem] def u_law07_Does_p3 {F K fr m} := @RK_unf F K fr m _ _ s_law07_Does_p3.eq_1
@[go_sem] def u_law07_Does_p4 {F K fr m} := @RK_unf F K fr m _ _ s_law07_Does_p4.eq_1
theorem t_law07_Does : tb f_law07_Does = some s_law07_Does := rfl
@[go_sem] def u_law07_awake_p0 {F K fr m} := @RK_unf F K fr m _ _ s_law07_awake_p0.eq_1
@[go_sem] def u_law07_awake_p1 {F K fr m} := @RK_unf F K fr m _ _ s_law07_awake_p1.eq_1
@[go_sem] def u_law07_awake_p2 {F K fr m} := @RK_unf F K fr m _ _ s_law07_awake_p2.eq_1
theorem t_law07_awake : tb f_law07_awake = some s_law07_awake := rfl
@[go_sem] def u_ref04_At_p0 {F K fr m} := @RK_unf F K fr m _ _ s_ref04_At_p0.eq_1
@[go_sem] def u_ref04_At_p1 {F K fr m} := @RK_unf F K fr m _ _ s_ref04_At_p1.eq_1
@[go_sem] def u_ref04_At_p2 {F K fr m} := @RK_unf F K fr m _ _ s_ref04_At_p2.eq_1
@[go_sem] def u_ref04_At_p3 {F K fr m} := @RK_unf F K fr m _ _ s_ref04_At_p3.eq_1
@[go_sem] def u_ref04_At_p4 {F K fr m} := @RK_unf F K fr m _ _ s_ref04_At_p4.eq_1
@[go_sem] def u_ref04_At_p5 {F K fr m} := @RK_unf F K fr m _ _ s_ref04_At_p5.eq_1
theorem t_ref04_At : tb f_ref04_At = some s_ref04_At := rfl
@[go_sem] def u_ref04_Terrain_p0 {F K fr m} := @RK_unf F K fr m _ _ s_ref04_Terrain_p0.eq_1
@[go_sem] def u_ref04_Terrain_p1 {F K fr m} := @RK_unf F K fr m _ _ s_ref04_Terrain_p1.eq_1
@[go_sem] def u_ref04_Terrain_p2 {F K fr m} := @RK_unf F K fr m _ _ s_ref04_Terrain_p2.eq_1
@[go_sem] def u_ref04_Terrain_p3 {F K fr m} := @RK_unf F K fr m _ _ s_ref04_Terrain_p3.eq_1
theorem t_ref04_Terrain : tb f_ref04_Terrain = some s_ref04_Terrain := rfl
@[go_sem] def u_ref06_May_p0 {F K fr m} := @RK_unf F K fr m _ _ s_ref06_May_p0.eq_1
theorem t_ref06_May : tb f_ref06_May = some s_ref06_May := rfl
@[go_sem] def u_ref06_Foot_p0 {F K fr m} := @RK_unf F K fr m _ _ s_ref06_Foot_p0.eq_1
@[go_sem] def u_ref06_Foot_p1 {F K fr m} := @RK_unf F K fr m _ _ s_ref06_Foot_p1.eq_1
@[go_sem] def u_ref06_Foot_p2 {F K fr m} := @RK_unf F K fr m _ _ s_ref06_Foot_p2.eq_1
@[go_sem] def u_ref06_Foot_p3 {F K fr m} := @RK_unf F K fr m _ _ s_ref06_Foot_p3.eq_1
@[go_sem] def u_ref06_Foot_p4 {F K fr m} := @RK_unf F K fr m _ _ s_ref06_Foot_p4.eq_1
theorem t_ref06_Foot : tb f_ref06_Foot = some s_ref06_Foot := rfl
@[go_sem] def u_ref06_On_p0 {F K fr m} := @RK_unf F K fr m _ _ s_ref06_On_p0.eq_1
@[go_sem] def u_ref06_On_p1 {F K fr m} := @RK_unf F K fr m _ _ s_ref06_On_p1.eq_1
@[go_sem] def u_ref06_On_p2 {F K fr m} := @RK_unf F K fr m _ _ s_ref06_On_p2.eq_1
@[go_sem] def u_ref06_On_p3 {F K fr m} := @RK_unf F K fr m _ _ s_ref06_On_p3.eq_1
@[go_sem] def u_ref06_On_p4 {F K fr m} := @RK_unf F K fr m _ _ s_ref06_On_p4.eq_1
@[go_sem] def u_ref06_On_p5 {F K fr m} := @RK_unf F K fr m _ _ s_ref06_On_p5.eq_1
theorem t_ref06_On : tb f_ref06_On = some s_ref06_On := rfl
@[go_sem] def u_ref06_Stands_p0 {F K fr m} := @RK_unf F K fr m _ _ s_ref06_Stands_p0.eq_1
@[go_sem] def u_ref06_Stands_p1 {F K fr m} := @RK_unf F K fr m _ _ s_ref06_Stands_p1.eq_1
@[go_sem] def u_ref06_Stands_p2 {F K fr m} := @RK_unf F K fr m _ _ s_ref06_Stands_p2.eq_1
@[go_sem] def u_ref06_Stands_p3 {F K fr m} := @RK_unf F K fr m _ _ s_ref06_Stands_p3.eq_1
@[go_sem] def u_ref06_Stands_p4 {F K fr m} := @RK_unf F K fr m _ _ s_ref06_Stands_p4.eq_1
@[go_sem] def u_ref06_Stands_p5 {F K fr m} := @RK_unf F K fr m _ _ s_ref06_Stands_p5.eq_1
@[go_sem] def u_ref06_Stands_p6 {F K fr m} := @RK_unf F K fr m _ _ s_ref06_Stands_p6.eq_1
@[go_sem] def u_ref06_Stands_p7 {F K fr m} := @RK_unf F K fr m _ _ s_ref06_Stands_p7.eq_1
@[go_sem] def u_ref06_Stands_p8 {F K fr m} := @RK_unf F K fr m _ _ s_ref06_Stands_p8.eq_1
@[go_sem] def u_ref06_Stands_p9 {F K fr m} := @RK_unf F K fr m _ _ s_ref06_Stands_p9.eq_1
@[go_sem] def u_ref06_Stands_p10 {F K fr m} := @RK_unf F K fr m _ _ s_ref06_Stands_p10.eq_1
@[go_sem] def u_ref06_Stands_p11 {F K fr m} := @RK_unf F K fr m _ _ s_ref06_Stands_p11.eq_1
@[go_sem] def u_ref06_Stands_p12 {F K fr m} := @RK_unf F K fr m _ _ s_ref06_Stands_p12.eq_1
@[go_sem] def u_ref06_Stands_p13 {F K fr m} := @RK_unf F K fr m _ _ s_ref06_Stands_p13.eq_1
@[go_sem] def u_ref06_Stands_p14 {F K fr m} := @RK_unf F K fr m _ _ s_ref06_Stands_p14.eq_1
@[go_sem] def u_ref06_Stands_p15 {F K fr m} := @RK_unf F K fr m _ _ s_ref06_Stands_p15.eq_1
theorem t_ref06_Stands : tb f_ref06_Stands = some s_ref06_Stands := rfl
@[go_sem] def u_ref06_Clear_p0 {F K fr m} := @RK_unf F K fr m _ _ s_ref06_Clear_p0.eq_1
@[go_sem] def u_ref06_Clear_p1 {F K fr m} := @RK_unf F K fr m _ _ s_ref06_Clear_p1.eq_1
@[go_sem] def u_ref06_Clear_p2 {F K fr m} := @RK_unf F K fr m _ _ s_ref06_Clear_p2.eq_1
@[go_sem] def u_ref06_Clear_p3 {F K fr m} := @RK_unf F K fr m _ _ s_ref06_Clear_p3.eq_1
@[go_sem] def u_ref06_Clear_p4 {F K fr m} := @RK_unf F K fr m _ _ s_ref06_Clear_p4.eq_1
theorem t_ref06_Clear : tb f_ref06_Clear = some s_ref06_Clear := rfl
@[go_sem] def u_law07_right_p0 {F K fr m} := @RK_unf F K fr m _ _ s_law07_right_p0.eq_1
@[go_sem] def u_law07_right_p1 {F K fr m} := @RK_unf F K fr m _ _ s_law07_right_p1.eq_1
@[go_sem] def u_law07_right_p2 {F K fr m} := @RK_unf F K fr m _ _ s_law07_right_p2.eq_1
@[go_sem] def u_law07_right_p3 {F K fr m} := @RK_unf F K fr m _ _ s_law07_right_p3.eq_1
@[go_sem] def u_law07_right_p4 {F K fr m} := @RK_unf F K fr m _ _ s_law07_right_p4.eq_1
@[go_sem] def u_law07_right_p5 {F K fr m} := @RK_unf F K fr m _ _ s_law07_right_p5.eq_1
@[go_sem] def u_law07_right_p6 {F K fr m} := @RK_unf F K fr m _ _ s_law07_right_p6.eq_1
@[go_sem] def u_law07_right_p7 {F K fr m} := @RK_unf F K fr m _ _ s_law07_right_p7.eq_1
@[go_sem] def u_law07_right_p8 {F K fr m} := @RK_unf F K fr m _ _ s_law07_right_p8.eq_1
@[go_sem] def u_law07_right_p9 {F K fr m} := @RK_unf F K fr m _ _ s_law07_right_p9.eq_1
@[go_sem] def u_law07_right_p10 {F K fr m} := @RK_unf F K fr m _ _ s_law07_right_p10.eq_1
theorem t_law07_right : tb f_law07_right = some s_law07_right := rfl
@[go_sem] def u_law07_ClearUpdates_p0 {F K fr m} := @RK_unf F K fr m _ _ s_law07_ClearUpdates_p0.eq_1
@[go_sem] def u_law07_ClearUpdates_p1 {F K fr m} := @RK_unf F K fr m _ _ s_law07_ClearUpdates_p1.eq_1
@[go_sem] def u_law07_ClearUpdates_p2 {F K fr m} := @RK_unf F K fr m _ _ s_law07_ClearUpdates_p2.eq_1
@[go_sem] def u_law07_ClearUpdates_p3 {F K fr m} := @RK_unf F K fr m _ _ s_law07_ClearUpdates_p3.eq_1
@[go_sem] def u_law07_ClearUpdates_p4 {F K fr m} := @RK_unf F K fr m _ _ s_law07_ClearUpdates_p4.eq_1
@[go_sem] def u_law07_ClearUpdates_p5 {F K fr m} := @RK_unf F K fr m _ _ s_law07_ClearUpdates_p5.eq_1
@[go_sem] def u_law07_ClearUpdates_p6 {F K fr m} := @RK_unf F K fr m _ _ s_law07_ClearUpdates_p6.eq_1
@[go_sem] def u_law07_ClearUpdates_p7 {F K fr m} := @RK_unf F K fr m _ _ s_law07_ClearUpdates_p7.eq_1
@[go_sem] def u_law07_ClearUpdates_p8 {F K fr m} := @RK_unf F K fr m _ _ s_law07_ClearUpdates_p8.eq_1
@[go_sem] def u_law07_ClearUpdates_p9 {F K fr m} := @RK_unf F K fr m _ _ s_law07_ClearUpdates_p9.eq_1
@[go_sem] def u_law07_ClearUpdates_p10 {F K fr m} := @RK_unf F K fr m _ _ s_law07_ClearUpdates_p10.eq_1
@[go_sem] def u_law07_ClearUpdates_p11 {F K fr m} := @RK_unf F K fr m _ _ s_law07_ClearUpdates_p11.eq_1
@[go_sem] def u_law07_ClearUpdates_p12 {F K fr m} := @RK_unf F K fr m _ _ s_law07_ClearUpdates_p12.eq_1
@[go_sem] def u_law07_ClearUpdates_p13 {F K fr m} := @RK_unf F K fr m _ _ s_law07_ClearUpdates_p13.eq_1
@[go_sem] def u_law07_ClearUpdates_p14 {F K fr m} := @RK_unf F K fr m _ _ s_law07_ClearUpdates_p14.eq_1
@[go_sem] def u_law07_ClearUpdates_p15 {F K fr m} := @RK_unf F K fr m _ _ s_law07_ClearUpdates_p15.eq_1
@[go_sem] def u_law07_ClearUpdates_p16 {F K fr m} := @RK_unf F K fr m _ _ s_law07_ClearUpdates_p16.eq_1
@[go_sem] def u_law07_ClearUpdates_p17 {F K fr m} := @RK_unf F K fr m _ _ s_law07_ClearUpdates_p17.eq_1
@[go_sem] def u_law07_ClearUpdates_p18 {F K fr m} := @RK_unf F K fr m _ _ s_law07_ClearUpdates_p18.eq_1
@[go_sem] def u_law07_ClearUpdates_p19 {F K fr m} := @RK_unf F K fr m _ _ s_law07_ClearUpdates_p19.eq_1
@[go_sem] def u_law07_ClearUpdates_p20 {F K fr m} := @RK_unf F K fr m _ _ s_law07_ClearUpdates_p20.eq_1
@[go_sem] def u_law07_ClearUpdates_p21 {F K fr m} := @RK_unf F K fr m _ _ s_law07_ClearUpdates_p21.eq_1
@[go_sem] def u_law07_ClearUpdates_p22 {F K fr m} := @RK_unf F K fr m _ _ s_law07_ClearUpdates_p22.eq_1
@[go_sem] def u_law07_ClearUpdates_p23 {F K fr m} := @RK_unf F K fr m _ _ s_law07_ClearUpdates_p23.eq_1
@[go_sem] def u_law07_ClearUpdates_p24 {F K fr m} := @RK_unf F K fr m _ _ s_law07_ClearUpdates_p24.eq_1
@[go_sem] def u_law07_ClearUpdates_p25 {F K fr m} := @RK_unf F K fr m _ _ s_law07_ClearUpdates_p25.eq_1
@[go_sem] def u_law07_ClearUpdates_p26 {F K fr m} := @RK_unf F K fr m _ _ s_law07_ClearUpdates_p26.eq_1
@[go_sem] def u_law07_ClearUpdates_p27 {F K fr m} := @RK_unf F K fr m _ _ s_law07_ClearUpdates_p27.eq_1
@[go_sem] def u_law07_ClearUpdates_p28 {F K fr m} := @RK_unf F K fr m _ _ s_law07_ClearUpdates_p28.eq_1
@[go_sem] def u_law07_ClearUpdates_p29 {F K fr m} := @RK_unf F K fr m _ _ s_law07_ClearUpdates_p29.eq_1
theorem t_law07_ClearUpdates : tb f_law07_ClearUpdates = some s_law07_ClearUpdates := rfl
end Go.Sh.T
