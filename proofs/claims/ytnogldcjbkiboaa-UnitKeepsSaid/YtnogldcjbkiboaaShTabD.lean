import Derived.Test.YtnogldcjbkiboaaShSl
set_option linter.all false
set_option linter.unusedVariables false
set_option linter.unusedSimpArgs false
set_option autoImplicit false
set_option linter.all false
set_option maxRecDepth 4096
namespace Go.Sh.T
open Go.Sh
def f_law21_UnitAims : FuncId := 3
def f_law21_UnitGives : FuncId := 4
def f_law21_UnitWalks : FuncId := 5
def f_law21_UnitChecks : FuncId := 6
def f_law21_UnitTurns : FuncId := 7
def f_law21_UnitKeeps : FuncId := 8
def f_ref21_Same : FuncId := 9
def f_unit_Stop : FuncId := 10
def f_ref21_Stop : FuncId := 11
def f_unit_Aim : FuncId := 12
def f_ref21_Aim : FuncId := 13
def f_law21_awake : FuncId := 14
def f_unit_Give : FuncId := 15
def f_ref21_Give : FuncId := 16
def f_law21_same : FuncId := 17
def f_ref21_May : FuncId := 18
def f_unit_Step : FuncId := 19
def f_unit_Next : FuncId := 20
def f_ref21_Next : FuncId := 21
def f_unit_Check : FuncId := 22
def f_ref21_Check : FuncId := 23
def f_ref21_Step : FuncId := 24
def f_unit_Hold : FuncId := 25
def f_ref21_Hold : FuncId := 26
def f_unit_Aside : FuncId := 27
def f_ref21_Aside : FuncId := 28
def f_unit_Lose : FuncId := 29
def f_ref21_Lose : FuncId := 30
def f_slices_Clone_api_Cell_api_Cell : FuncId := 31
def f_ref06_May : FuncId := 32
def f_ref21_cell : FuncId := 33
def f_ref03_Dir : FuncId := 34
def f_unit_goes : FuncId := 35
def f_unit_idle : FuncId := 36
def f_unit_moving : FuncId := 37
def f_unit_stuck : FuncId := 38
def f_class_May : FuncId := 39
def f_unit_inside : FuncId := 40
def f_ref21_errno : FuncId := 41
def f_cell_Dir : FuncId := 42
def f_ref03_Step : FuncId := 43
def f_cell_Has : FuncId := 44
def f_cell_Step : FuncId := 45
def f_ref03_Turn : FuncId := 46
def f_ref03_Near : FuncId := 47
def f_cell_May : FuncId := 48
def f_cell_last : FuncId := 49
def f_cell_turn : FuncId := 50
def f_cell_Near : FuncId := 51
def f_cell_plus : FuncId := 52
def f_ref03_near : FuncId := 53
def f_cell_side : FuncId := 54
def f_cell_near : FuncId := 55
def s_ref21_Same_p0 : SCode := (.region false [⟨some 6, .faddr 0 (.t 2), none, false⟩,
  ⟨some 7, .load none (.t 6), none, false⟩,
  ⟨some 8, .faddr 0 (.t 3), none, false⟩,
  ⟨some 9, .load none (.t 8), none, false⟩,
  ⟨some 10, .bin .neq (.t 7) (.t 9), none, false⟩,
  ⟨some 11, .mv (.t 10), none, false⟩,
  ⟨some 12, .faddr 1 (.t 2), (some (11, false)), false⟩,
  ⟨some 13, .load none (.t 12), (some (11, false)), false⟩,
  ⟨some 14, .faddr 1 (.t 3), (some (11, false)), false⟩,
  ⟨some 15, .load none (.t 14), (some (11, false)), false⟩,
  ⟨some 16, .bin .neq (.t 13) (.t 15), (some (11, false)), false⟩,
  ⟨some 17, .pick (.t 11) (.v (.bool true)) (.t 16), none, false⟩,
  ⟨some 18, .mv (.t 17), none, false⟩,
  ⟨some 19, .faddr 2 (.t 2), (some (18, false)), false⟩,
  ⟨some 20, .load (some 2) (.t 19), (some (18, false)), false⟩,
  ⟨some 21, .faddr 2 (.t 3), (some (18, false)), false⟩,
  ⟨some 22, .load (some 2) (.t 21), (some (18, false)), false⟩,
  ⟨some 23, .eq true true [.int, .int] (.t 20) (.t 22), (some (18, false)), false⟩,
  ⟨some 24, .pick (.t 18) (.v (.bool true)) (.t 23), none, false⟩,
  ⟨some 25, .mv (.t 24), none, false⟩,
  ⟨some 26, .faddr 4 (.t 2), (some (25, false)), false⟩,
  ⟨some 27, .load (some 2) (.t 26), (some (25, false)), false⟩,
  ⟨some 28, .faddr 4 (.t 3), (some (25, false)), false⟩,
  ⟨some 29, .load (some 2) (.t 28), (some (25, false)), false⟩,
  ⟨some 30, .eq true true [.int, .int] (.t 27) (.t 29), (some (25, false)), false⟩,
  ⟨some 31, .pick (.t 25) (.v (.bool true)) (.t 30), none, false⟩,
  ⟨some 32, .mv (.t 31), none, false⟩,
  ⟨some 33, .faddr 6 (.t 2), (some (32, false)), false⟩,
  ⟨some 34, .load none (.t 33), (some (32, false)), false⟩,
  ⟨some 35, .faddr 6 (.t 3), (some (32, false)), false⟩,
  ⟨some 36, .load none (.t 35), (some (32, false)), false⟩,
  ⟨some 37, .bin .neq (.t 34) (.t 36), (some (32, false)), false⟩,
  ⟨some 38, .pick (.t 32) (.v (.bool true)) (.t 37), none, false⟩,
  ⟨some 39, .mv (.t 38), none, false⟩,
  ⟨some 40, .faddr 7 (.t 2), (some (39, false)), false⟩,
  ⟨some 41, .load (some 2) (.t 40), (some (39, false)), false⟩,
  ⟨some 42, .faddr 7 (.t 3), (some (39, false)), false⟩,
  ⟨some 43, .load (some 2) (.t 42), (some (39, false)), false⟩,
  ⟨some 44, .eq true true [.int, .int] (.t 41) (.t 43), (some (39, false)), false⟩,
  ⟨some 45, .pick (.t 39) (.v (.bool true)) (.t 44), none, false⟩,
  ⟨some 46, .mv (.t 45), none, false⟩,
  ⟨some 47, .faddr 10 (.t 2), (some (46, false)), false⟩,
  ⟨some 48, .load none (.t 47), (some (46, false)), false⟩,
  ⟨some 49, .faddr 10 (.t 3), (some (46, false)), false⟩,
  ⟨some 50, .load none (.t 49), (some (46, false)), false⟩,
  ⟨some 51, .bin .neq (.t 48) (.t 50), (some (46, false)), false⟩,
  ⟨some 52, .pick (.t 46) (.v (.bool true)) (.t 51), none, false⟩,
  ⟨some 53, .mv (.t 52), none, false⟩,
  ⟨some 54, .faddr 9 (.t 2), (some (53, false)), false⟩,
  ⟨some 55, .load none (.t 54), (some (53, false)), false⟩,
  ⟨some 56, .len (.t 55), (some (53, false)), false⟩,
  ⟨some 57, .faddr 9 (.t 3), (some (53, false)), false⟩,
  ⟨some 58, .load none (.t 57), (some (53, false)), false⟩,
  ⟨some 59, .len (.t 58), (some (53, false)), false⟩,
  ⟨some 60, .bin .neq (.t 56) (.t 59), (some (53, false)), false⟩,
  ⟨some 61, .pick (.t 53) (.v (.bool true)) (.t 60), none, false⟩])
def s_ref21_Same_p1 : SCode := (.region false [⟨some 62, .mv (.t 5), none, false⟩,
  ⟨some 63, .faddr 9 (.t 2), none, false⟩,
  ⟨some 64, .load none (.t 63), none, false⟩,
  ⟨some 65, .len (.t 64), none, false⟩,
  ⟨some 66, .bin .lss (.t 62) (.t 65), none, false⟩])
def s_ref21_Same_p2 : SCode := (.region true [⟨some 69, .faddr 9 (.t 2), none, true⟩,
  ⟨some 70, .load none (.t 69), none, true⟩,
  ⟨some 71, .mv (.t 5), none, true⟩,
  ⟨some 72, .iaddr 2 (.t 70) (.t 71), none, true⟩,
  ⟨some 73, .load (some 2) (.t 72), none, true⟩,
  ⟨some 74, .faddr 9 (.t 3), none, true⟩,
  ⟨some 75, .load none (.t 74), none, true⟩,
  ⟨some 76, .mv (.t 5), none, true⟩,
  ⟨some 77, .iaddr 2 (.t 75) (.t 76), none, true⟩,
  ⟨some 78, .load (some 2) (.t 77), none, true⟩,
  ⟨some 79, .eq true true [.int, .int] (.t 73) (.t 78), none, false⟩])
def s_ref21_Same_p3 : SCode := (.seq (.kp [2, 3, 5] (.block 1 (.seq (.kp [2, 3, 5, 79] s_ref21_Same_p2) (.cond (.t 79) (.seq (.region false [⟨some 4, .mv (.v (.bool false)), none, false⟩]) .ret) .skip)))) (.region false [⟨some 67, .mv (.t 5), none, false⟩,
  ⟨some 68, .bin .add (.t 67) (.v (.int .i64 1)), none, false⟩,
  ⟨some 5, .mv (.t 68), none, false⟩]))
def s_ref21_Same_p4 : SCode := (.seq (.kp [2, 3, 5] (.seq (.kp [2, 3, 5, 66] s_ref21_Same_p1) (.cond (.t 66) .skip (.exit 0)))) s_ref21_Same_p3)
def s_ref21_Same_p5 : SCode := (.seq (.kp [] (.seq (.kp [2, 3, 5] (.region false [⟨some 5, .mv (.v (.int .i64 0)), none, false⟩])) (.block 0 (.loop (some [2, 3, 5]) s_ref21_Same_p4)))) (.seq (.region false [⟨some 4, .mv (.v (.bool true)), none, false⟩]) .ret))
def s_ref21_Same_p6 : SCode := (.seq (.region false [⟨some 2, .box true 11 (.t 0), none, false⟩,
  ⟨some 3, .box true 11 (.t 1), none, false⟩,
  ⟨some 4, .mv (.v (.bool false)), none, false⟩]) (.seq (.kp [2, 3] (.seq (.kp [2, 3, 61] s_ref21_Same_p0) (.cond (.t 61) (.seq (.region false [⟨some 4, .mv (.v (.bool false)), none, false⟩]) .ret) .skip))) s_ref21_Same_p5))
def s_ref21_Same : SFn := ⟨2, [.t 4], s_ref21_Same_p6⟩
def s_unit_Stop_p0 : SCode := (.region false [⟨some 1, .box true 11 (.t 0), none, false⟩,
  ⟨some 2, .alloc true [(.int .i64 0), (.int .i64 0), (.int .i64 0), (.int .i64 0), (.int .i64 0), (.int .i64 0), (.int .i64 0), (.int .i64 0), (.int .i64 0), .nils, (.int .i64 0)], none, false⟩])
def s_unit_Stop_p1 : SCode := (.region false [⟨some 3, .build [(.int .i64 0), (.int .i64 0)] [], none, false⟩,
  ⟨some 4, .faddr 6 (.t 1), none, false⟩,
  ⟨none, .store 1 [] (.t 4) (.v (.int .i64 0)), none, false⟩,
  ⟨some 5, .faddr 7 (.t 1), none, false⟩,
  ⟨none, .store 2 [] (.t 5) (.t 3), none, false⟩,
  ⟨some 6, .faddr 9 (.t 1), none, false⟩,
  ⟨none, .store 1 [] (.t 6) (.v .nils), none, false⟩,
  ⟨some 7, .faddr 10 (.t 1), none, false⟩,
  ⟨none, .store 1 [] (.t 7) (.v (.int .i64 0)), none, false⟩])
def s_unit_Stop : SFn := ⟨1, [.cell 2 (some 11)], (.seq s_unit_Stop_p0 (.seq (.kp [1, 2] s_unit_Stop_p1) (.seq (.region false [⟨some 8, .load (some 11) (.t 1), none, false⟩,
  ⟨none, .store 11 [] (.t 2) (.t 8), none, false⟩]) .ret)))⟩
def s_ref21_Stop_p0 : SCode := (.region false [⟨some 1, .box true 11 (.t 0), none, false⟩,
  ⟨some 2, .alloc true [(.int .i64 0), (.int .i64 0), (.int .i64 0), (.int .i64 0), (.int .i64 0), (.int .i64 0), (.int .i64 0), (.int .i64 0), (.int .i64 0), .nils, (.int .i64 0)], none, false⟩])
def s_ref21_Stop_p1 : SCode := (.region false [⟨some 3, .faddr 0 (.t 1), none, false⟩,
  ⟨some 4, .load none (.t 3), none, false⟩,
  ⟨some 5, .faddr 1 (.t 1), none, false⟩,
  ⟨some 6, .load none (.t 5), none, false⟩,
  ⟨some 7, .faddr 2 (.t 1), none, false⟩,
  ⟨some 8, .load (some 2) (.t 7), none, false⟩,
  ⟨some 9, .faddr 4 (.t 1), none, false⟩,
  ⟨some 10, .load (some 2) (.t 9), none, false⟩,
  ⟨some 11, .build [(.int .i64 0), (.int .i64 0), (.int .i64 0), (.int .i64 0), (.int .i64 0), (.int .i64 0), (.int .i64 0), (.int .i64 0), (.int .i64 0), .nils, (.int .i64 0)] [(0, 1, (.t 4)), (1, 1, (.t 6)), (2, 2, (.t 8)), (4, 2, (.t 10))], none, false⟩,
  ⟨none, .store 11 [] (.t 2) (.t 11), none, false⟩])
def s_ref21_Stop : SFn := ⟨1, [.cell 2 (some 11)], (.seq s_ref21_Stop_p0 (.seq (.kp [2] s_ref21_Stop_p1) .ret))⟩
def s_unit_Aim_p0 : SCode := (.region false [⟨some 2, .box true 11 (.t 0), none, false⟩,
  ⟨some 3, .box true 2 (.t 1), none, false⟩,
  ⟨some 4, .alloc true [(.int .i64 0), (.int .i64 0), (.int .i64 0), (.int .i64 0), (.int .i64 0), (.int .i64 0), (.int .i64 0), (.int .i64 0), (.int .i64 0), .nils, (.int .i64 0)], none, false⟩])
def s_unit_Aim_p1 : SCode := (.region false [⟨some 7, .load (some 2) (.t 3), none, false⟩,
  ⟨some 8, .faddr 4 (.t 2), none, false⟩,
  ⟨some 9, .load (some 2) (.t 8), none, false⟩,
  ⟨some 10, .eq true true [.int, .int] (.t 7) (.t 9), none, false⟩])
def s_unit_Aim_p2 : SCode := (.region true [⟨some 11, .load (some 2) (.t 3), none, true⟩,
  ⟨some 12, .faddr 6 (.t 2), none, true⟩,
  ⟨none, .store 1 [(.t 3)] (.t 12) (.v (.int .i64 2)), none, false⟩,
  ⟨some 13, .faddr 7 (.t 2), none, false⟩,
  ⟨none, .store 2 [] (.t 13) (.t 11), none, false⟩])
def s_unit_Aim_p3 : SCode := (.seq (.kp [2, 4] (.seq s_unit_Aim_p1 (.cond (.t 10) s_unit_Aim_p2 .skip))) (.seq (.region false [⟨some 14, .load (some 11) (.t 2), none, false⟩,
  ⟨none, .store 11 [] (.t 4) (.t 14), none, false⟩]) .ret))
def s_unit_Aim_p4 : SCode := (.seq s_unit_Aim_p0 (.seq (.region false [⟨some 5, .load (some 11) (.t 2), none, false⟩,
  ⟨some 6, .call f_unit_Stop [(.t 5)], none, false⟩,
  ⟨none, .store 11 [] (.t 2) (.t 6), none, false⟩]) s_unit_Aim_p3))
def s_unit_Aim : SFn := ⟨2, [.cell 4 (some 11)], s_unit_Aim_p4⟩
def s_ref21_Aim_p0 : SCode := (.region false [⟨some 2, .box true 11 (.t 0), none, false⟩,
  ⟨some 3, .box true 2 (.t 1), none, false⟩,
  ⟨some 4, .alloc true [(.int .i64 0), (.int .i64 0), (.int .i64 0), (.int .i64 0), (.int .i64 0), (.int .i64 0), (.int .i64 0), (.int .i64 0), (.int .i64 0), .nils, (.int .i64 0)], none, false⟩])
def s_ref21_Aim_p1 : SCode := (.region false [⟨some 6, .load (some 11) (.t 2), none, false⟩,
  ⟨some 7, .call f_ref21_Stop [(.t 6)], none, false⟩,
  ⟨some 5, .alloc true [(.int .i64 0), (.int .i64 0), (.int .i64 0), (.int .i64 0), (.int .i64 0), (.int .i64 0), (.int .i64 0), (.int .i64 0), (.int .i64 0), .nils, (.int .i64 0)], none, false⟩,
  ⟨none, .store 11 [] (.t 5) (.t 7), none, false⟩])
def s_ref21_Aim_p2 : SCode := (.region false [⟨some 8, .load (some 2) (.t 3), none, false⟩,
  ⟨some 9, .faddr 4 (.t 2), none, false⟩,
  ⟨some 10, .load (some 2) (.t 9), none, false⟩,
  ⟨some 11, .eq true true [.int, .int] (.t 8) (.t 10), none, false⟩])
def s_ref21_Aim_p3 : SCode := (.seq (.region false [⟨some 12, .faddr 6 (.t 5), none, false⟩,
  ⟨none, .store 1 [] (.t 12) (.v (.int .i64 2)), none, false⟩]) (.region false [⟨some 13, .load (some 2) (.t 3), none, false⟩,
  ⟨some 14, .faddr 7 (.t 5), none, false⟩,
  ⟨none, .store 2 [] (.t 14) (.t 13), none, false⟩]))
def s_ref21_Aim_p4 : SCode := (.seq (.kp [4, 5] (.seq s_ref21_Aim_p2 (.cond (.t 11) s_ref21_Aim_p3 .skip))) (.seq (.region false [⟨some 15, .load (some 11) (.t 5), none, false⟩,
  ⟨none, .store 11 [] (.t 4) (.t 15), none, false⟩]) .ret))
def s_ref21_Aim : SFn := ⟨2, [.cell 4 (some 11)], (.seq s_ref21_Aim_p0 (.seq s_ref21_Aim_p1 s_ref21_Aim_p4))⟩
def s_unit_stuck_p0 : SCode := (.region false [⟨some 3, .faddr 9 (.t 1), none, false⟩,
  ⟨some 4, .load none (.t 3), none, false⟩,
  ⟨some 5, .len (.t 4), none, false⟩,
  ⟨some 6, .bin .eql (.t 5) (.v (.int .i64 0)), none, false⟩,
  ⟨some 7, .mv (.t 6), none, false⟩,
  ⟨some 8, .faddr 10 (.t 1), (some (7, true)), false⟩,
  ⟨some 9, .load none (.t 8), (some (7, true)), false⟩,
  ⟨some 10, .bin .eql (.t 9) (.v (.int .i64 0)), (some (7, true)), false⟩,
  ⟨some 11, .pick (.t 7) (.t 10) (.v (.bool false)), none, false⟩,
  ⟨some 2, .mv (.t 11), none, false⟩])
def s_unit_stuck : SFn := ⟨1, [.t 2], (.seq (.region false [⟨some 1, .box true 11 (.t 0), none, false⟩,
  ⟨some 2, .mv (.v (.bool false)), none, false⟩]) (.seq (.kp [2] s_unit_stuck_p0) .ret))⟩
def s_unit_idle_p0 : SCode := (.region false [⟨some 3, .load (some 11) (.t 1), none, false⟩,
  ⟨some 4, .call f_unit_stuck [(.t 3)], none, false⟩,
  ⟨some 5, .mv (.t 4), none, false⟩,
  ⟨some 6, .faddr 7 (.t 1), (some (5, true)), false⟩,
  ⟨some 7, .load (some 2) (.t 6), (some (5, true)), false⟩,
  ⟨some 8, .build [(.int .i64 0), (.int .i64 0)] [], (some (5, true)), false⟩,
  ⟨some 9, .eq false true [.int, .int] (.t 7) (.t 8), (some (5, true)), false⟩,
  ⟨some 10, .pick (.t 5) (.t 9) (.v (.bool false)), none, false⟩,
  ⟨some 2, .mv (.t 10), none, false⟩])
def s_unit_idle : SFn := ⟨1, [.t 2], (.seq (.region false [⟨some 1, .box true 11 (.t 0), none, false⟩,
  ⟨some 2, .mv (.v (.bool false)), none, false⟩]) (.seq (.kp [2] s_unit_idle_p0) .ret))⟩
def s_cell_last_p0 : SCode := (.region false [⟨some 3, .faddr 0 (.t 1), none, false⟩,
  ⟨some 4, .faddr 0 (.t 3), none, false⟩,
  ⟨some 5, .load none (.t 4), none, false⟩,
  ⟨some 6, .faddr 2 (.t 1), none, false⟩,
  ⟨some 7, .load none (.t 6), none, false⟩,
  ⟨some 8, .bin .add (.t 5) (.t 7), none, false⟩,
  ⟨some 9, .bin .sub (.t 8) (.v (.int .i64 1)), none, false⟩,
  ⟨some 10, .faddr 0 (.t 1), none, false⟩,
  ⟨some 11, .faddr 1 (.t 10), none, false⟩,
  ⟨some 12, .load none (.t 11), none, false⟩,
  ⟨some 13, .faddr 3 (.t 1), none, false⟩,
  ⟨some 14, .load none (.t 13), none, false⟩,
  ⟨some 15, .bin .add (.t 12) (.t 14), none, false⟩,
  ⟨some 16, .bin .sub (.t 15) (.v (.int .i64 1)), none, false⟩,
  ⟨some 17, .build [(.int .i64 0), (.int .i64 0)] [(0, 1, (.t 9)), (1, 1, (.t 16))], none, false⟩,
  ⟨none, .store 2 [] (.t 2) (.t 17), none, false⟩])
def s_cell_last : SFn := ⟨1, [.cell 2 (some 2)], (.seq (.region false [⟨some 1, .box true 4 (.t 0), none, false⟩,
  ⟨some 2, .alloc true [(.int .i64 0), (.int .i64 0)], none, false⟩]) (.seq (.kp [2] s_cell_last_p0) .ret))⟩
def s_cell_near_p0 : SCode := (.region false [⟨some 3, .mv (.t 0), none, false⟩,
  ⟨some 4, .bin .geq (.t 3) (.v (.int .i64 (-1048576))), none, false⟩,
  ⟨some 5, .mv (.t 4), none, false⟩,
  ⟨some 6, .mv (.t 0), (some (5, true)), false⟩,
  ⟨some 7, .bin .leq (.t 6) (.v (.int .i64 1048576)), (some (5, true)), false⟩,
  ⟨some 8, .pick (.t 5) (.t 7) (.v (.bool false)), none, false⟩,
  ⟨some 2, .mv (.t 8), none, false⟩])
def s_cell_near : SFn := ⟨1, [.t 2], (.seq (.region false [⟨some 2, .mv (.v (.bool false)), none, false⟩]) (.seq (.kp [2] s_cell_near_p0) .ret))⟩
def s_cell_Near_p0 : SCode := (.region false [⟨some 3, .faddr 0 (.t 1), none, false⟩,
  ⟨some 4, .load none (.t 3), none, false⟩,
  ⟨some 5, .call f_cell_near [(.t 4)], none, false⟩,
  ⟨some 6, .mv (.t 5), none, false⟩,
  ⟨some 7, .faddr 1 (.t 1), (some (6, true)), false⟩,
  ⟨some 8, .load none (.t 7), (some (6, true)), false⟩,
  ⟨some 9, .call f_cell_near [(.t 8)], (some (6, true)), false⟩,
  ⟨some 10, .pick (.t 6) (.t 9) (.v (.bool false)), none, false⟩,
  ⟨some 2, .mv (.t 10), none, false⟩])
def s_cell_Near : SFn := ⟨1, [.t 2], (.seq (.region false [⟨some 1, .box true 2 (.t 0), none, false⟩,
  ⟨some 2, .mv (.v (.bool false)), none, false⟩]) (.seq (.kp [2] s_cell_Near_p0) .ret))⟩
def s_cell_side_p0 : SCode := (.region false [⟨some 3, .mv (.t 0), none, false⟩,
  ⟨some 4, .bin .geq (.t 3) (.v (.int .i64 1)), none, false⟩,
  ⟨some 5, .mv (.t 4), none, false⟩,
  ⟨some 6, .mv (.t 0), (some (5, true)), false⟩,
  ⟨some 7, .bin .leq (.t 6) (.v (.int .i64 1048576)), (some (5, true)), false⟩,
  ⟨some 8, .pick (.t 5) (.t 7) (.v (.bool false)), none, false⟩,
  ⟨some 2, .mv (.t 8), none, false⟩])
def s_cell_side : SFn := ⟨1, [.t 2], (.seq (.region false [⟨some 2, .mv (.v (.bool false)), none, false⟩]) (.seq (.kp [2] s_cell_side_p0) .ret))⟩
def s_cell_May_p0 : SCode := (.region false [⟨some 3, .faddr 0 (.t 1), none, false⟩,
  ⟨some 4, .load (some 2) (.t 3), none, false⟩,
  ⟨some 5, .call f_cell_Near [(.t 4)], none, false⟩,
  ⟨some 6, .mv (.t 5), none, false⟩,
  ⟨some 7, .faddr 2 (.t 1), (some (6, true)), false⟩,
  ⟨some 8, .load none (.t 7), (some (6, true)), false⟩,
  ⟨some 9, .call f_cell_side [(.t 8)], (some (6, true)), false⟩,
  ⟨some 10, .pick (.t 6) (.t 9) (.v (.bool false)), none, false⟩,
  ⟨some 11, .mv (.t 10), none, false⟩,
  ⟨some 12, .faddr 3 (.t 1), (some (11, true)), false⟩,
  ⟨some 13, .load none (.t 12), (some (11, true)), false⟩,
  ⟨some 14, .call f_cell_side [(.t 13)], (some (11, true)), false⟩,
  ⟨some 15, .pick (.t 11) (.t 14) (.v (.bool false)), none, false⟩,
  ⟨some 16, .mv (.t 15), none, false⟩,
  ⟨some 17, .load (some 4) (.t 1), (some (16, true)), false⟩,
  ⟨some 18, .call f_cell_last [(.t 17)], (some (16, true)), false⟩,
  ⟨some 19, .call f_cell_Near [(.t 18)], (some (16, true)), false⟩,
  ⟨some 20, .pick (.t 16) (.t 19) (.v (.bool false)), none, false⟩,
  ⟨some 2, .mv (.t 20), none, false⟩])
def s_cell_May : SFn := ⟨1, [.t 2], (.seq (.region false [⟨some 1, .box true 4 (.t 0), none, false⟩,
  ⟨some 2, .mv (.v (.bool false)), none, false⟩]) (.seq (.kp [2] s_cell_May_p0) .ret))⟩
def s_cell_Has_p0 : SCode := (.seq (.region false [⟨some 6, .load (some 4) (.t 2), none, false⟩,
  ⟨some 7, .call f_cell_May [(.t 6)], none, false⟩,
  ⟨some 8, .un .not (.t 7), none, false⟩]) (.cond (.t 8) (.seq (.region false [⟨some 4, .mv (.v (.bool false)), none, false⟩]) .ret) .skip))
def s_cell_Has_p1 : SCode := (.region false [⟨some 9, .load (some 4) (.t 2), none, false⟩,
  ⟨some 10, .call f_cell_last [(.t 9)], none, false⟩,
  ⟨some 5, .alloc true [(.int .i64 0), (.int .i64 0)], none, false⟩,
  ⟨none, .store 2 [] (.t 5) (.t 10), none, false⟩])
def s_cell_Has_p2 : SCode := (.region false [⟨some 11, .faddr 0 (.t 3), none, false⟩,
  ⟨some 12, .load none (.t 11), none, false⟩,
  ⟨some 13, .faddr 0 (.t 2), none, false⟩,
  ⟨some 14, .faddr 0 (.t 13), none, false⟩,
  ⟨some 15, .load none (.t 14), none, false⟩,
  ⟨some 16, .bin .geq (.t 12) (.t 15), none, false⟩,
  ⟨some 17, .mv (.t 16), none, false⟩,
  ⟨some 18, .faddr 0 (.t 3), (some (17, true)), false⟩,
  ⟨some 19, .load none (.t 18), (some (17, true)), false⟩,
  ⟨some 20, .faddr 0 (.t 5), (some (17, true)), false⟩,
  ⟨some 21, .load none (.t 20), (some (17, true)), false⟩,
  ⟨some 22, .bin .leq (.t 19) (.t 21), (some (17, true)), false⟩,
  ⟨some 23, .pick (.t 17) (.t 22) (.v (.bool false)), none, false⟩,
  ⟨some 24, .mv (.t 23), none, false⟩,
  ⟨some 25, .faddr 1 (.t 3), (some (24, true)), false⟩,
  ⟨some 26, .load none (.t 25), (some (24, true)), false⟩,
  ⟨some 27, .faddr 0 (.t 2), (some (24, true)), false⟩,
  ⟨some 28, .faddr 1 (.t 27), (some (24, true)), false⟩,
  ⟨some 29, .load none (.t 28), (some (24, true)), false⟩,
  ⟨some 30, .bin .geq (.t 26) (.t 29), (some (24, true)), false⟩,
  ⟨some 31, .pick (.t 24) (.t 30) (.v (.bool false)), none, false⟩,
  ⟨some 32, .mv (.t 31), none, false⟩,
  ⟨some 33, .faddr 1 (.t 3), (some (32, true)), false⟩,
  ⟨some 34, .load none (.t 33), (some (32, true)), false⟩,
  ⟨some 35, .faddr 1 (.t 5), (some (32, true)), false⟩,
  ⟨some 36, .load none (.t 35), (some (32, true)), false⟩,
  ⟨some 37, .bin .leq (.t 34) (.t 36), (some (32, true)), false⟩,
  ⟨some 38, .pick (.t 32) (.t 37) (.v (.bool false)), none, false⟩,
  ⟨some 4, .mv (.t 38), none, false⟩])
def s_cell_Has_p3 : SCode := (.seq (.region false [⟨some 2, .box true 4 (.t 0), none, false⟩,
  ⟨some 3, .box true 2 (.t 1), none, false⟩,
  ⟨some 4, .mv (.v (.bool false)), none, false⟩]) (.seq (.kp [2, 3] s_cell_Has_p0) (.seq s_cell_Has_p1 (.seq (.kp [4] s_cell_Has_p2) .ret))))
def s_cell_Has : SFn := ⟨2, [.t 4], s_cell_Has_p3⟩
def s_unit_inside_p0 : SCode := (.region false [⟨some 3, .build [(.int .i64 0), (.int .i64 0), (.int .i64 0), (.int .i64 0)] [(2, 1, (.v (.int .i64 128))), (3, 1, (.v (.int .i64 128)))], none, false⟩,
  ⟨some 4, .load (some 2) (.t 1), none, false⟩,
  ⟨some 5, .call f_cell_Has [(.t 3), (.t 4)], none, false⟩,
  ⟨some 2, .mv (.t 5), none, false⟩])
def s_unit_inside : SFn := ⟨1, [.t 2], (.seq (.region false [⟨some 1, .box true 2 (.t 0), none, false⟩,
  ⟨some 2, .mv (.v (.bool false)), none, false⟩]) (.seq s_unit_inside_p0 .ret))⟩
def s_cell_turn_p0 : SCode := (.region false [⟨some 18, .build [(.int .i64 0), (.int .i64 0)] [(0, 1, (.v (.int .i64 1))), (1, 1, (.v (.int .i64 1)))], none, false⟩,
  ⟨none, .store 2 [] (.t 2) (.t 18), none, false⟩])
def s_cell_turn_p1 : SCode := (.region false [⟨some 21, .build [(.int .i64 0), (.int .i64 0)] [(0, 1, (.v (.int .i64 (-1)))), (1, 1, (.v (.int .i64 1)))], none, false⟩,
  ⟨none, .store 2 [] (.t 2) (.t 21), none, false⟩])
def s_cell_turn_p2 : SCode := (.region false [⟨some 24, .build [(.int .i64 0), (.int .i64 0)] [(0, 1, (.v (.int .i64 (-1)))), (1, 1, (.v (.int .i64 (-1))))], none, false⟩,
  ⟨none, .store 2 [] (.t 2) (.t 24), none, false⟩])
def s_cell_turn_p3 : SCode := (.region false [⟨some 27, .build [(.int .i64 0), (.int .i64 0)] [(0, 1, (.v (.int .i64 1))), (1, 1, (.v (.int .i64 (-1))))], none, false⟩,
  ⟨none, .store 2 [] (.t 2) (.t 27), none, false⟩])
def s_cell_turn_p4 : SCode := (.cond (.t 22) (.seq s_cell_turn_p2 .ret) (.seq (.region false [⟨some 26, .bin .eql (.t 3) (.v (.int .i64 7)), none, false⟩,
  ⟨some 25, .mv (.t 26), none, false⟩]) (.cond (.t 25) (.seq s_cell_turn_p3 .ret) .skip)))
def s_cell_turn_p5 : SCode := (.seq (.region false [⟨some 20, .bin .eql (.t 3) (.v (.int .i64 5)), none, false⟩,
  ⟨some 19, .mv (.t 20), none, false⟩]) (.cond (.t 19) (.seq s_cell_turn_p1 .ret) (.seq (.region false [⟨some 23, .bin .eql (.t 3) (.v (.int .i64 6)), none, false⟩,
  ⟨some 22, .mv (.t 23), none, false⟩]) s_cell_turn_p4)))
def s_cell_turn_p6 : SCode := (.cond (.t 13) (.seq (.region false [⟨some 15, .build [(.int .i64 0), (.int .i64 0)] [(1, 1, (.v (.int .i64 (-1))))], none, false⟩,
  ⟨none, .store 2 [] (.t 2) (.t 15), none, false⟩]) .ret) (.seq (.region false [⟨some 17, .bin .eql (.t 3) (.v (.int .i64 4)), none, false⟩,
  ⟨some 16, .mv (.t 17), none, false⟩]) (.cond (.t 16) (.seq s_cell_turn_p0 .ret) s_cell_turn_p5)))
def s_cell_turn_p7 : SCode := (.cond (.t 10) (.seq (.region false [⟨some 12, .build [(.int .i64 0), (.int .i64 0)] [(0, 1, (.v (.int .i64 (-1))))], none, false⟩,
  ⟨none, .store 2 [] (.t 2) (.t 12), none, false⟩]) .ret) (.seq (.region false [⟨some 14, .bin .eql (.t 3) (.v (.int .i64 3)), none, false⟩,
  ⟨some 13, .mv (.t 14), none, false⟩]) s_cell_turn_p6))
def s_cell_turn_p8 : SCode := (.cond (.t 7) (.seq (.region false [⟨some 9, .build [(.int .i64 0), (.int .i64 0)] [(1, 1, (.v (.int .i64 1)))], none, false⟩,
  ⟨none, .store 2 [] (.t 2) (.t 9), none, false⟩]) .ret) (.seq (.region false [⟨some 11, .bin .eql (.t 3) (.v (.int .i64 2)), none, false⟩,
  ⟨some 10, .mv (.t 11), none, false⟩]) s_cell_turn_p7))
def s_cell_turn_p9 : SCode := (.cond (.t 4) (.seq (.region false [⟨some 6, .build [(.int .i64 0), (.int .i64 0)] [(0, 1, (.v (.int .i64 1)))], none, false⟩,
  ⟨none, .store 2 [] (.t 2) (.t 6), none, false⟩]) .ret) (.seq (.region false [⟨some 8, .bin .eql (.t 3) (.v (.int .i64 1)), none, false⟩,
  ⟨some 7, .mv (.t 8), none, false⟩]) s_cell_turn_p8))
def s_cell_turn_p10 : SCode := (.seq (.region false [⟨some 3, .mv (.t 0), none, false⟩]) (.block 0 (.seq (.region false [⟨some 5, .bin .eql (.t 3) (.v (.int .i64 0)), none, false⟩,
  ⟨some 4, .mv (.t 5), none, false⟩]) s_cell_turn_p9)))
def s_cell_turn_p11 : SCode := (.seq (.region false [⟨some 2, .alloc true [(.int .i64 0), (.int .i64 0)], none, false⟩]) (.seq (.kp [2] s_cell_turn_p10) (.seq (.region false [⟨some 28, .build [(.int .i64 0), (.int .i64 0)] [], none, false⟩,
  ⟨none, .store 2 [] (.t 2) (.t 28), none, false⟩]) .ret)))
def s_cell_turn : SFn := ⟨1, [.cell 2 (some 2)], s_cell_turn_p11⟩
def s_cell_plus_p0 : SCode := (.region false [⟨some 5, .faddr 0 (.t 2), none, false⟩,
  ⟨some 6, .load none (.t 5), none, false⟩,
  ⟨some 7, .faddr 0 (.t 3), none, false⟩,
  ⟨some 8, .load none (.t 7), none, false⟩,
  ⟨some 9, .bin .add (.t 6) (.t 8), none, false⟩,
  ⟨some 10, .faddr 1 (.t 2), none, false⟩,
  ⟨some 11, .load none (.t 10), none, false⟩,
  ⟨some 12, .faddr 1 (.t 3), none, false⟩,
  ⟨some 13, .load none (.t 12), none, false⟩,
  ⟨some 14, .bin .add (.t 11) (.t 13), none, false⟩,
  ⟨some 15, .build [(.int .i64 0), (.int .i64 0)] [(0, 1, (.t 9)), (1, 1, (.t 14))], none, false⟩,
  ⟨none, .store 2 [] (.t 4) (.t 15), none, false⟩])
def s_cell_plus_p1 : SCode := (.seq (.region false [⟨some 2, .box true 2 (.t 0), none, false⟩,
  ⟨some 3, .box true 2 (.t 1), none, false⟩,
  ⟨some 4, .alloc true [(.int .i64 0), (.int .i64 0)], none, false⟩]) (.seq (.kp [4] s_cell_plus_p0) .ret))
def s_cell_plus : SFn := ⟨2, [.cell 4 (some 2)], s_cell_plus_p1⟩
def s_cell_Step_p0 : SCode := (.region false [⟨some 7, .mv (.t 1), none, false⟩,
  ⟨some 8, .call f_cell_turn [(.t 7)], none, false⟩,
  ⟨some 6, .alloc true [(.int .i64 0), (.int .i64 0)], none, false⟩,
  ⟨none, .store 2 [] (.t 6) (.t 8), none, false⟩])
def s_cell_Step_p1 : SCode := (.region false [⟨some 9, .load (some 2) (.t 6), none, false⟩,
  ⟨some 10, .build [(.int .i64 0), (.int .i64 0)] [], none, false⟩,
  ⟨some 11, .eq false true [.int, .int] (.t 9) (.t 10), none, false⟩,
  ⟨some 12, .mv (.t 11), none, false⟩,
  ⟨some 13, .load (some 2) (.t 2), (some (12, false)), false⟩,
  ⟨some 14, .call f_cell_Near [(.t 13)], (some (12, false)), false⟩,
  ⟨some 15, .un .not (.t 14), (some (12, false)), false⟩,
  ⟨some 16, .pick (.t 12) (.v (.bool true)) (.t 15), none, false⟩,
  ⟨some 17, .mv (.t 16), none, false⟩,
  ⟨some 18, .load (some 2) (.t 2), (some (17, false)), false⟩,
  ⟨some 19, .load (some 2) (.t 6), (some (17, false)), false⟩,
  ⟨some 20, .call f_cell_plus [(.t 18), (.t 19)], (some (17, false)), false⟩,
  ⟨some 21, .call f_cell_Near [(.t 20)], (some (17, false)), false⟩,
  ⟨some 22, .un .not (.t 21), (some (17, false)), false⟩,
  ⟨some 23, .pick (.t 17) (.v (.bool true)) (.t 22), none, false⟩])
def s_cell_Step_p2 : SCode := (.region false [⟨some 24, .build [(.int .i64 0), (.int .i64 0)] [], none, false⟩,
  ⟨none, .store 2 [] (.t 4) (.t 24), none, false⟩,
  ⟨some 5, .mv (.v (.bool false)), none, false⟩])
def s_cell_Step_p3 : SCode := (.region false [⟨some 25, .load (some 2) (.t 2), none, false⟩,
  ⟨some 26, .load (some 2) (.t 6), none, false⟩,
  ⟨some 27, .call f_cell_plus [(.t 25), (.t 26)], none, false⟩,
  ⟨none, .store 2 [] (.t 4) (.t 27), none, false⟩,
  ⟨some 5, .mv (.v (.bool true)), none, false⟩])
def s_cell_Step_p4 : SCode := (.seq (.region false [⟨some 2, .box true 2 (.t 0), none, false⟩,
  ⟨some 4, .alloc true [(.int .i64 0), (.int .i64 0)], none, false⟩,
  ⟨some 5, .mv (.v (.bool false)), none, false⟩]) (.seq s_cell_Step_p0 (.seq (.kp [2, 4, 6] (.seq (.kp [2, 4, 6, 23] s_cell_Step_p1) (.cond (.t 23) (.seq s_cell_Step_p2 .ret) .skip))) (.seq (.kp [4, 5] s_cell_Step_p3) .ret))))
def s_cell_Step : SFn := ⟨2, [.cell 4 (some 2), .t 5], s_cell_Step_p4⟩
def s_cell_Dir_p0 : SCode := (.region false [⟨some 12, .load (some 2) (.t 2), none, false⟩,
  ⟨some 13, .mv (.t 5), none, false⟩,
  ⟨some 14, .call f_cell_Step [(.t 12), (.t 13)], none, false⟩,
  ⟨some 11, .mv (.t 14), none, false⟩,
  ⟨some 15, .ext (.t 11) 0, none, false⟩,
  ⟨some 16, .ext (.t 11) 1, none, false⟩,
  ⟨some 6, .alloc true [(.int .i64 0), (.int .i64 0)], none, false⟩,
  ⟨none, .store 2 [] (.t 6) (.t 15), none, false⟩,
  ⟨some 7, .mv (.t 16), none, false⟩])
def s_cell_Dir_p1 : SCode := (.region false [⟨some 17, .mv (.t 7), none, false⟩,
  ⟨some 18, .mv (.t 17), none, false⟩,
  ⟨some 19, .load (some 2) (.t 6), (some (18, true)), false⟩,
  ⟨some 20, .load (some 2) (.t 3), (some (18, true)), false⟩,
  ⟨some 21, .eq false true [.int, .int] (.t 19) (.t 20), (some (18, true)), false⟩,
  ⟨some 22, .pick (.t 18) (.t 21) (.v (.bool false)), none, false⟩])
def s_cell_Dir_p2 : SCode := (.seq (.kp [2, 3, 5, 6, 7, 8] s_cell_Dir_p0) (.seq (.kp [2, 3, 5, 8, 22] s_cell_Dir_p1) (.cond (.t 22) (.seq (.region false [⟨some 23, .mv (.t 5), none, false⟩,
  ⟨some 4, .mv (.t 23), none, false⟩]) .ret) .skip)))
def s_cell_Dir_p3 : SCode := (.seq (.kp [2, 3, 8] (.block 1 (.seq (.region false [⟨some 10, .mv (.t 8), none, false⟩,
  ⟨some 5, .mv (.t 10), none, false⟩]) s_cell_Dir_p2))) (.region false [⟨some 24, .bin .add (.t 8) (.v (.int .i64 1)), none, false⟩,
  ⟨some 8, .mv (.t 24), none, false⟩]))
def s_cell_Dir_p4 : SCode := (.seq (.region false [⟨some 9, .bin .lss (.t 8) (.v (.int .i64 8)), none, false⟩]) (.seq (.kp [2, 3, 8] (.cond (.t 9) .skip (.exit 0))) s_cell_Dir_p3))
def s_cell_Dir_p5 : SCode := (.seq (.kp [] (.seq (.kp [2, 3, 8] (.region false [⟨some 8, .mv (.v (.int .i64 0)), none, false⟩])) (.block 0 (.loop (some [2, 3, 8]) s_cell_Dir_p4)))) (.seq (.region false [⟨some 4, .mv (.v (.int .i64 (-1))), none, false⟩]) .ret))
def s_cell_Dir : SFn := ⟨2, [.t 4], (.seq (.region false [⟨some 2, .box true 2 (.t 0), none, false⟩,
  ⟨some 3, .box true 2 (.t 1), none, false⟩,
  ⟨some 4, .mv (.v (.int .i64 0)), none, false⟩]) s_cell_Dir_p5)⟩
def s_unit_moving_p0 : SCode := (.region true [⟨some 6, .faddr 9 (.t 1), none, false⟩,
  ⟨some 7, .load none (.t 6), none, false⟩,
  ⟨some 8, .len (.t 7), none, false⟩,
  ⟨some 9, .bin .eql (.t 8) (.v (.int .i64 0)), none, false⟩,
  ⟨some 10, .mv (.t 9), none, false⟩,
  ⟨some 11, .faddr 9 (.t 1), (some (10, false)), false⟩,
  ⟨some 12, .load none (.t 11), (some (10, false)), false⟩,
  ⟨some 13, .len (.t 12), (some (10, false)), false⟩,
  ⟨some 14, .bin .gtr (.t 13) (.v (.int .i64 16384)), (some (10, false)), false⟩,
  ⟨some 15, .pick (.t 10) (.v (.bool true)) (.t 14), none, false⟩,
  ⟨some 16, .mv (.t 15), none, false⟩,
  ⟨some 17, .faddr 9 (.t 1), (some (16, false)), true⟩,
  ⟨some 18, .load none (.t 17), (some (16, false)), true⟩,
  ⟨some 19, .faddr 9 (.t 1), (some (16, false)), true⟩,
  ⟨some 20, .load none (.t 19), (some (16, false)), true⟩,
  ⟨some 21, .len (.t 20), (some (16, false)), true⟩,
  ⟨some 22, .bin .sub (.t 21) (.v (.int .i64 1)), (some (16, false)), true⟩,
  ⟨some 23, .iaddr 2 (.t 18) (.t 22), (some (16, false)), true⟩,
  ⟨some 24, .load (some 2) (.t 23), (some (16, false)), true⟩,
  ⟨some 25, .faddr 7 (.t 1), (some (16, false)), true⟩,
  ⟨some 26, .load (some 2) (.t 25), (some (16, false)), true⟩,
  ⟨some 27, .eq true true [.int, .int] (.t 24) (.t 26), (some (16, false)), false⟩,
  ⟨some 28, .pick (.t 16) (.v (.bool true)) (.t 27), none, false⟩])
def s_unit_moving_p1 : SCode := (.region false [⟨some 29, .faddr 4 (.t 1), none, false⟩,
  ⟨some 30, .load (some 2) (.t 29), none, false⟩,
  ⟨some 3, .alloc true [(.int .i64 0), (.int .i64 0)], none, false⟩,
  ⟨none, .store 2 [] (.t 3) (.t 30), none, false⟩])
def s_unit_moving_p2 : SCode := (.region false [⟨some 31, .faddr 9 (.t 1), none, false⟩,
  ⟨some 32, .load none (.t 31), none, false⟩,
  ⟨some 33, .len (.t 32), none, false⟩,
  ⟨some 34, .mv (.v (.int .i64 0)), none, false⟩])
def s_unit_moving_p3 : SCode := (.region false [⟨some 36, .iaddr 2 (.t 32) (.t 34), none, false⟩,
  ⟨some 37, .load (some 2) (.t 36), none, false⟩,
  ⟨some 5, .alloc true [(.int .i64 0), (.int .i64 0)], none, false⟩,
  ⟨none, .store 2 [] (.t 5) (.t 37), none, false⟩])
def s_unit_moving_p4 : SCode := (.region false [⟨some 38, .load (some 2) (.t 5), none, false⟩,
  ⟨some 39, .call f_unit_inside [(.t 38)], none, false⟩,
  ⟨some 40, .un .not (.t 39), none, false⟩,
  ⟨some 41, .mv (.t 40), none, false⟩,
  ⟨some 42, .load (some 2) (.t 3), (some (41, false)), false⟩,
  ⟨some 43, .load (some 2) (.t 5), (some (41, false)), false⟩,
  ⟨some 44, .call f_cell_Dir [(.t 42), (.t 43)], (some (41, false)), false⟩,
  ⟨some 45, .bin .lss (.t 44) (.v (.int .i64 0)), (some (41, false)), false⟩,
  ⟨some 46, .pick (.t 41) (.v (.bool true)) (.t 45), none, false⟩])
def s_unit_moving_p5 : SCode := (.seq (.kp [3, 5, 32, 33, 34] (.seq (.kp [3, 5, 32, 33, 34, 46] s_unit_moving_p4) (.cond (.t 46) (.seq (.region false [⟨some 2, .mv (.v (.bool false)), none, false⟩]) .ret) .skip))) (.region false [⟨some 47, .load (some 2) (.t 5), none, false⟩,
  ⟨none, .store 2 [] (.t 3) (.t 47), none, false⟩]))
def s_unit_moving_p6 : SCode := (.seq (.kp [3, 32, 33, 34] (.cond (.t 35) .skip (.exit 0))) (.seq (.kp [3, 32, 33, 34] (.block 1 (.seq s_unit_moving_p3 s_unit_moving_p5))) (.region false [⟨some 48, .bin .add (.t 34) (.v (.int .i64 1)), none, false⟩,
  ⟨some 34, .mv (.t 48), none, false⟩])))
def s_unit_moving_p7 : SCode := (.seq (.region false [⟨some 35, .bin .lss (.t 34) (.t 33), none, false⟩]) s_unit_moving_p6)
def s_unit_moving_p8 : SCode := (.seq s_unit_moving_p1 (.seq (.kp [] (.seq (.kp [3, 32, 33, 34] s_unit_moving_p2) (.block 0 (.loop (some [3, 32, 33, 34]) s_unit_moving_p7)))) (.seq (.region false [⟨some 2, .mv (.v (.bool true)), none, false⟩]) .ret)))
def s_unit_moving_p9 : SCode := (.seq (.region false [⟨some 1, .box true 11 (.t 0), none, false⟩,
  ⟨some 2, .mv (.v (.bool false)), none, false⟩]) (.seq (.kp [1] (.seq (.kp [1, 28] s_unit_moving_p0) (.cond (.t 28) (.seq (.region false [⟨some 2, .mv (.v (.bool false)), none, false⟩]) .ret) .skip))) s_unit_moving_p8))
def s_unit_moving : SFn := ⟨1, [.t 2], s_unit_moving_p9⟩
def s_class_May_p0 : SCode := (.region false [⟨some 3, .faddr 0 (.t 1), none, false⟩,
  ⟨some 4, .load none (.t 3), none, false⟩,
  ⟨some 5, .bin .geq (.t 4) (.v (.int .i64 0)), none, false⟩,
  ⟨some 6, .mv (.t 5), none, false⟩,
  ⟨some 7, .faddr 0 (.t 1), (some (6, true)), false⟩,
  ⟨some 8, .load none (.t 7), (some (6, true)), false⟩,
  ⟨some 9, .bin .lss (.t 8) (.v (.int .i64 4)), (some (6, true)), false⟩,
  ⟨some 10, .pick (.t 6) (.t 9) (.v (.bool false)), none, false⟩,
  ⟨some 11, .mv (.t 10), none, false⟩,
  ⟨some 12, .faddr 1 (.t 1), (some (11, true)), false⟩,
  ⟨some 13, .load none (.t 12), (some (11, true)), false⟩,
  ⟨some 14, .bin .geq (.t 13) (.v (.int .i64 1)), (some (11, true)), false⟩,
  ⟨some 15, .pick (.t 11) (.t 14) (.v (.bool false)), none, false⟩,
  ⟨some 16, .mv (.t 15), none, false⟩,
  ⟨some 17, .faddr 1 (.t 1), (some (16, true)), false⟩,
  ⟨some 18, .load none (.t 17), (some (16, true)), false⟩,
  ⟨some 19, .bin .leq (.t 18) (.v (.int .i64 4)), (some (16, true)), false⟩,
  ⟨some 20, .pick (.t 16) (.t 19) (.v (.bool false)), none, false⟩,
  ⟨some 2, .mv (.t 20), none, false⟩])
def s_class_May : SFn := ⟨1, [.t 2], (.seq (.region false [⟨some 1, .box true 2 (.t 0), none, false⟩,
  ⟨some 2, .mv (.v (.bool false)), none, false⟩]) (.seq (.kp [2] s_class_May_p0) .ret))⟩
def s_unit_Check_p0 : SCode := (.region false [⟨some 4, .build [.nilf, .nilf, .nilf] [(0, 1, (.v (.fn f_unit_idle [] []))), (1, 1, (.v (.fn f_unit_moving [] []))), (2, 1, (.v (.fn f_unit_stuck [] [])))], none, false⟩,
  ⟨some 5, .build [.nilf, .nilf, .nilf] [(0, 3, (.t 4))], none, false⟩,
  ⟨some 3, .alloc true [.nilf, .nilf, .nilf], none, false⟩,
  ⟨none, .store 3 [] (.t 3) (.t 5), none, false⟩])
def s_unit_Check_p1 : SCode := (.region false [⟨some 7, .faddr 0 (.t 1), none, false⟩,
  ⟨some 8, .load none (.t 7), none, false⟩,
  ⟨some 9, .bin .lss (.t 8) (.v (.int .i64 1)), none, false⟩,
  ⟨some 10, .mv (.t 9), none, false⟩,
  ⟨some 11, .faddr 0 (.t 1), (some (10, false)), false⟩,
  ⟨some 12, .load none (.t 11), (some (10, false)), false⟩,
  ⟨some 13, .bin .gtr (.t 12) (.v (.int .i64 2147483647)), (some (10, false)), false⟩,
  ⟨some 14, .pick (.t 10) (.v (.bool true)) (.t 13), none, false⟩,
  ⟨some 15, .mv (.t 14), none, false⟩,
  ⟨some 16, .faddr 1 (.t 1), (some (15, false)), false⟩,
  ⟨some 17, .load none (.t 16), (some (15, false)), false⟩,
  ⟨some 18, .bin .lss (.t 17) (.v (.int .i64 0)), (some (15, false)), false⟩,
  ⟨some 19, .pick (.t 15) (.v (.bool true)) (.t 18), none, false⟩,
  ⟨some 20, .mv (.t 19), none, false⟩,
  ⟨some 21, .faddr 1 (.t 1), (some (20, false)), false⟩,
  ⟨some 22, .load none (.t 21), (some (20, false)), false⟩,
  ⟨some 23, .bin .geq (.t 22) (.v (.int .i64 8)), (some (20, false)), false⟩,
  ⟨some 24, .pick (.t 20) (.v (.bool true)) (.t 23), none, false⟩,
  ⟨some 6, .mv (.t 24), none, false⟩])
def s_unit_Check_p2 : SCode := (.region false [⟨some 26, .faddr 2 (.t 1), none, false⟩,
  ⟨some 27, .load (some 2) (.t 26), none, false⟩,
  ⟨some 28, .call f_class_May [(.t 27)], none, false⟩,
  ⟨some 29, .un .not (.t 28), none, false⟩,
  ⟨some 30, .mv (.t 29), none, false⟩,
  ⟨some 31, .faddr 4 (.t 1), (some (30, false)), false⟩,
  ⟨some 32, .load (some 2) (.t 31), (some (30, false)), false⟩,
  ⟨some 33, .call f_unit_inside [(.t 32)], (some (30, false)), false⟩,
  ⟨some 34, .un .not (.t 33), (some (30, false)), false⟩,
  ⟨some 35, .pick (.t 30) (.v (.bool true)) (.t 34), none, false⟩,
  ⟨some 36, .mv (.t 35), none, false⟩,
  ⟨some 37, .faddr 7 (.t 1), (some (36, false)), false⟩,
  ⟨some 38, .load (some 2) (.t 37), (some (36, false)), false⟩,
  ⟨some 39, .call f_unit_inside [(.t 38)], (some (36, false)), false⟩,
  ⟨some 40, .un .not (.t 39), (some (36, false)), false⟩,
  ⟨some 41, .pick (.t 36) (.v (.bool true)) (.t 40), none, false⟩,
  ⟨some 42, .mv (.t 41), none, false⟩,
  ⟨some 43, .faddr 10 (.t 1), (some (42, false)), false⟩,
  ⟨some 44, .load none (.t 43), (some (42, false)), false⟩,
  ⟨some 45, .bin .lss (.t 44) (.v (.int .i64 0)), (some (42, false)), false⟩,
  ⟨some 46, .pick (.t 42) (.v (.bool true)) (.t 45), none, false⟩,
  ⟨some 47, .mv (.t 46), none, false⟩,
  ⟨some 48, .faddr 10 (.t 1), (some (47, false)), false⟩,
  ⟨some 49, .load none (.t 48), (some (47, false)), false⟩,
  ⟨some 50, .bin .gtr (.t 49) (.v (.int .i64 15)), (some (47, false)), false⟩,
  ⟨some 51, .pick (.t 47) (.v (.bool true)) (.t 50), none, false⟩,
  ⟨some 25, .mv (.t 51), none, false⟩])
def s_unit_Check_p3 : SCode := (.region true [⟨some 53, .faddr 6 (.t 1), none, false⟩,
  ⟨some 54, .load none (.t 53), none, false⟩,
  ⟨some 55, .bin .lss (.t 54) (.v (.int .i64 0)), none, false⟩,
  ⟨some 56, .mv (.t 55), none, false⟩,
  ⟨some 57, .faddr 6 (.t 1), (some (56, false)), false⟩,
  ⟨some 58, .load none (.t 57), (some (56, false)), false⟩,
  ⟨some 59, .bin .geq (.t 58) (.v (.int .i64 3)), (some (56, false)), false⟩,
  ⟨some 60, .pick (.t 56) (.v (.bool true)) (.t 59), none, false⟩,
  ⟨some 61, .mv (.t 60), none, false⟩,
  ⟨some 62, .faddr 6 (.t 1), (some (61, false)), true⟩,
  ⟨some 63, .load none (.t 62), (some (61, false)), true⟩,
  ⟨some 64, .faddr 0 (.t 3), (some (61, false)), true⟩,
  ⟨some 65, .iaddrA 3 1 (.t 64) (.t 63), (some (61, false)), true⟩,
  ⟨some 66, .load none (.t 65), (some (61, false)), true⟩,
  ⟨some 67, .load (some 11) (.t 1), (some (61, false)), true⟩,
  ⟨some 68, .callv (.t 66) [(.t 67)], (some (61, false)), false⟩,
  ⟨some 69, .un .not (.t 68), (some (61, false)), false⟩,
  ⟨some 70, .pick (.t 61) (.v (.bool true)) (.t 69), none, false⟩,
  ⟨some 52, .mv (.t 70), none, false⟩])
def s_unit_Check_p4 : SCode := (.cond (.t 6) .skip (.seq (.kp [1, 3, 25] s_unit_Check_p2) (.cond (.t 25) .skip (.seq (.kp [52] s_unit_Check_p3) (.cond (.t 52) .skip (.seq (.region false [⟨some 2, .mv (.v (.int .i64 0)), none, false⟩]) .ret))))))
def s_unit_Check_p5 : SCode := (.seq (.region false [⟨some 1, .box true 11 (.t 0), none, false⟩,
  ⟨some 2, .mv (.v (.int .i64 0)), none, false⟩]) (.seq s_unit_Check_p0 (.seq (.kp [] (.block 0 (.seq (.kp [1, 3, 6] s_unit_Check_p1) s_unit_Check_p4))) (.seq (.region false [⟨some 2, .mv (.v (.int .i64 1)), none, false⟩]) .ret))))
def s_unit_Check : SFn := ⟨1, [.t 2], s_unit_Check_p5⟩
def s_slices_Clone_api_Cell_api_Cell_p0 : SCode := (.seq (.region false [⟨some 3, .mv (.t 0), none, false⟩,
  ⟨some 4, .eq false false [.slice] (.t 3) (.v .nils), none, false⟩]) (.cond (.t 4) (.seq (.region false [⟨some 2, .mv (.v .nils), none, false⟩]) .ret) .skip))
def s_slices_Clone_api_Cell_api_Cell_p1 : SCode := (.region false [⟨some 5, .bslice [] 0 2 [], none, false⟩,
  ⟨some 6, .mv (.t 0), none, false⟩,
  ⟨some 7, .append 2 16 [(.int .i64 0), (.int .i64 0)] [] (.t 5) (.t 6), none, false⟩,
  ⟨some 2, .mv (.t 7), none, false⟩])
def s_slices_Clone_api_Cell_api_Cell : SFn := ⟨1, [.t 2], (.seq (.region false [⟨some 2, .mv (.v .nils), none, false⟩]) (.seq (.kp [0] s_slices_Clone_api_Cell_api_Cell_p0) (.seq s_slices_Clone_api_Cell_api_Cell_p1 .ret)))⟩
def s_unit_Give_p0 : SCode := (.region false [⟨some 2, .box true 11 (.t 0), none, false⟩,
  ⟨some 4, .alloc true [(.int .i64 0), (.int .i64 0), (.int .i64 0), (.int .i64 0), (.int .i64 0), (.int .i64 0), (.int .i64 0), (.int .i64 0), (.int .i64 0), .nils, (.int .i64 0)], none, false⟩,
  ⟨some 5, .mv (.v (.int .i64 0)), none, false⟩])
def s_unit_Give_p1 : SCode := (.region false [⟨some 6, .load (some 11) (.t 2), none, false⟩,
  ⟨some 7, .call f_unit_Check [(.t 6)], none, false⟩,
  ⟨some 8, .bin .neq (.t 7) (.v (.int .i64 0)), none, false⟩,
  ⟨some 9, .mv (.t 8), none, false⟩,
  ⟨some 10, .faddr 6 (.t 2), (some (9, false)), false⟩,
  ⟨some 11, .load none (.t 10), (some (9, false)), false⟩,
  ⟨some 12, .bin .neq (.t 11) (.v (.int .i64 2)), (some (9, false)), false⟩,
  ⟨some 13, .pick (.t 9) (.v (.bool true)) (.t 12), none, false⟩])
def s_unit_Give_p2 : SCode := (.region false [⟨some 14, .build [(.int .i64 0), (.int .i64 0), (.int .i64 0), (.int .i64 0), (.int .i64 0), (.int .i64 0), (.int .i64 0), (.int .i64 0), (.int .i64 0), .nils, (.int .i64 0)] [], none, false⟩,
  ⟨none, .store 11 [] (.t 4) (.t 14), none, false⟩,
  ⟨some 5, .mv (.v (.int .i64 1)), none, false⟩])
def s_unit_Give_p3 : SCode := (.region false [⟨some 15, .mv (.t 1), none, false⟩,
  ⟨some 16, .call f_slices_Clone_api_Cell_api_Cell [(.t 15)], none, false⟩,
  ⟨some 17, .faddr 6 (.t 2), none, false⟩,
  ⟨none, .store 1 [] (.t 17) (.v (.int .i64 1)), none, false⟩,
  ⟨some 18, .faddr 9 (.t 2), none, false⟩,
  ⟨none, .store 1 [] (.t 18) (.t 16), none, false⟩])
def s_unit_Give_p4 : SCode := (.region false [⟨some 22, .build [(.int .i64 0), (.int .i64 0), (.int .i64 0), (.int .i64 0), (.int .i64 0), (.int .i64 0), (.int .i64 0), (.int .i64 0), (.int .i64 0), .nils, (.int .i64 0)] [], none, false⟩,
  ⟨none, .store 11 [] (.t 4) (.t 22), none, false⟩,
  ⟨some 5, .mv (.v (.int .i64 1)), none, false⟩])
def s_unit_Give_p5 : SCode := (.seq (.region false [⟨some 19, .load (some 11) (.t 2), none, false⟩,
  ⟨some 20, .call f_unit_Check [(.t 19)], none, false⟩,
  ⟨some 21, .bin .neq (.t 20) (.v (.int .i64 0)), none, false⟩]) (.cond (.t 21) (.seq s_unit_Give_p4 .ret) .skip))
def s_unit_Give_p6 : SCode := (.seq (.kp [2, 4] s_unit_Give_p5) (.seq (.region false [⟨some 23, .load (some 11) (.t 2), none, false⟩,
  ⟨none, .store 11 [] (.t 4) (.t 23), none, false⟩,
  ⟨some 5, .mv (.v (.int .i64 0)), none, false⟩]) .ret))
def s_unit_Give : SFn := ⟨2, [.cell 4 (some 11), .t 5], (.seq s_unit_Give_p0 (.seq (.kp [1, 2, 4] (.seq (.kp [1, 2, 4, 13] s_unit_Give_p1) (.cond (.t 13) (.seq s_unit_Give_p2 .ret) .skip))) (.seq (.kp [2, 4] s_unit_Give_p3) s_unit_Give_p6)))⟩
def s_unit_goes_p0 : SCode := (.region false [⟨some 3, .faddr 6 (.t 1), none, false⟩,
  ⟨some 4, .load none (.t 3), none, false⟩,
  ⟨some 5, .bin .eql (.t 4) (.v (.int .i64 1)), none, false⟩,
  ⟨some 6, .mv (.t 5), none, false⟩,
  ⟨some 7, .load (some 11) (.t 1), (some (6, true)), false⟩,
  ⟨some 8, .call f_unit_Check [(.t 7)], (some (6, true)), false⟩,
  ⟨some 9, .bin .eql (.t 8) (.v (.int .i64 0)), (some (6, true)), false⟩,
  ⟨some 10, .pick (.t 6) (.t 9) (.v (.bool false)), none, false⟩,
  ⟨some 2, .mv (.t 10), none, false⟩])
def s_unit_goes : SFn := ⟨1, [.t 2], (.seq (.region false [⟨some 1, .box true 11 (.t 0), none, false⟩,
  ⟨some 2, .mv (.v (.bool false)), none, false⟩]) (.seq (.kp [2] s_unit_goes_p0) .ret))⟩
def s_unit_Step_p0 : SCode := (.region false [⟨some 1, .box true 11 (.t 0), none, false⟩,
  ⟨some 2, .alloc true [(.int .i64 0), (.int .i64 0), (.int .i64 0), (.int .i64 0), (.int .i64 0), (.int .i64 0), (.int .i64 0), (.int .i64 0), (.int .i64 0), .nils, (.int .i64 0)], none, false⟩,
  ⟨some 3, .mv (.v (.int .i64 0)), none, false⟩])
def s_unit_Step_p1 : SCode := (.region false [⟨some 7, .build [(.int .i64 0), (.int .i64 0), (.int .i64 0), (.int .i64 0), (.int .i64 0), (.int .i64 0), (.int .i64 0), (.int .i64 0), (.int .i64 0), .nils, (.int .i64 0)] [], none, false⟩,
  ⟨none, .store 11 [] (.t 2) (.t 7), none, false⟩,
  ⟨some 3, .mv (.v (.int .i64 1)), none, false⟩])
def s_unit_Step_p2 : SCode := (.seq (.region false [⟨some 4, .load (some 11) (.t 1), none, false⟩,
  ⟨some 5, .call f_unit_goes [(.t 4)], none, false⟩,
  ⟨some 6, .un .not (.t 5), none, false⟩]) (.cond (.t 6) (.seq s_unit_Step_p1 .ret) .skip))
def s_unit_Step_p3 : SCode := (.region true [⟨some 8, .faddr 9 (.t 1), none, true⟩,
  ⟨some 9, .load none (.t 8), none, true⟩,
  ⟨some 10, .iaddr 2 (.t 9) (.v (.int .i64 0)), none, true⟩,
  ⟨some 11, .load (some 2) (.t 10), none, true⟩,
  ⟨some 12, .faddr 9 (.t 1), none, true⟩,
  ⟨some 13, .load none (.t 12), none, true⟩,
  ⟨some 14, .slice 2 (.t 13) (some (.v (.int .i64 1))) none none, none, true⟩,
  ⟨some 16, .faddr 4 (.t 1), none, true⟩,
  ⟨some 15, .call f_slices_Clone_api_Cell_api_Cell [(.t 14)], none, true⟩,
  ⟨none, .store 2 [] (.t 16) (.t 11), none, false⟩,
  ⟨some 17, .faddr 9 (.t 1), none, false⟩,
  ⟨none, .store 1 [] (.t 17) (.t 15), none, false⟩,
  ⟨some 18, .faddr 10 (.t 1), none, false⟩,
  ⟨none, .store 1 [] (.t 18) (.v (.int .i64 0)), none, false⟩])
def s_unit_Step_p4 : SCode := (.region false [⟨some 19, .faddr 9 (.t 1), none, false⟩,
  ⟨some 20, .load none (.t 19), none, false⟩,
  ⟨some 21, .len (.t 20), none, false⟩,
  ⟨some 22, .bin .eql (.t 21) (.v (.int .i64 0)), none, false⟩])
def s_unit_Step_p5 : SCode := (.region false [⟨some 23, .load (some 11) (.t 1), none, false⟩,
  ⟨some 24, .call f_unit_Stop [(.t 23)], none, false⟩,
  ⟨none, .store 11 [] (.t 2) (.t 24), none, false⟩,
  ⟨some 3, .mv (.v (.int .i64 0)), none, false⟩])
def s_unit_Step_p6 : SCode := (.seq (.kp [1, 2] (.seq s_unit_Step_p4 (.cond (.t 22) (.seq s_unit_Step_p5 .ret) .skip))) (.seq (.region false [⟨some 25, .load (some 11) (.t 1), none, false⟩,
  ⟨none, .store 11 [] (.t 2) (.t 25), none, false⟩,
  ⟨some 3, .mv (.v (.int .i64 0)), none, false⟩]) .ret))
def s_unit_Step : SFn := ⟨1, [.cell 2 (some 11), .t 3], (.seq s_unit_Step_p0 (.seq (.kp [1, 2] s_unit_Step_p2) (.seq (.kp [1, 2] s_unit_Step_p3) s_unit_Step_p6)))⟩
def s_law21_awake_p0 : SCode := (.region false [⟨some 6, .build [(.int .i64 0), (.int .i64 0)] [(1, 1, (.v (.int .i64 1)))], none, false⟩,
  ⟨some 7, .build [(.int .i64 0), (.int .i64 0), (.int .i64 0), (.int .i64 0), (.int .i64 0), (.int .i64 0), (.int .i64 0), (.int .i64 0), (.int .i64 0), .nils, (.int .i64 0)] [(0, 1, (.v (.int .i64 1))), (2, 2, (.t 6))], none, false⟩,
  ⟨some 8, .build [(.int .i64 0), (.int .i64 0)] [(0, 1, (.v (.int .i64 1)))], none, false⟩,
  ⟨some 9, .call f_unit_Aim [(.t 7), (.t 8)], none, false⟩,
  ⟨some 1, .alloc true [(.int .i64 0), (.int .i64 0), (.int .i64 0), (.int .i64 0), (.int .i64 0), (.int .i64 0), (.int .i64 0), (.int .i64 0), (.int .i64 0), .nils, (.int .i64 0)], none, false⟩,
  ⟨none, .store 11 [] (.t 1) (.t 9), none, false⟩])
def s_law21_awake_p1 : SCode := (.region false [⟨some 11, .load (some 11) (.t 1), none, false⟩,
  ⟨some 12, .build [(.int .i64 0), (.int .i64 0)] [(0, 1, (.v (.int .i64 1)))], none, false⟩,
  ⟨some 13, .bslice [(.int .i64 0), (.int .i64 0)] 1 2 [(0, 2, (.t 12))], none, false⟩,
  ⟨some 14, .call f_unit_Give [(.t 11), (.t 13)], none, false⟩,
  ⟨some 10, .mv (.t 14), none, false⟩,
  ⟨some 15, .ext (.t 10) 0, none, false⟩,
  ⟨some 16, .ext (.t 10) 1, none, false⟩,
  ⟨some 2, .alloc true [(.int .i64 0), (.int .i64 0), (.int .i64 0), (.int .i64 0), (.int .i64 0), (.int .i64 0), (.int .i64 0), (.int .i64 0), (.int .i64 0), .nils, (.int .i64 0)], none, false⟩,
  ⟨none, .store 11 [] (.t 2) (.t 15), none, false⟩,
  ⟨some 3, .mv (.t 16), none, false⟩])
def s_law21_awake_p2 : SCode := (.region false [⟨some 18, .load (some 11) (.t 2), none, false⟩,
  ⟨some 19, .call f_unit_Step [(.t 18)], none, false⟩,
  ⟨some 17, .mv (.t 19), none, false⟩,
  ⟨some 20, .ext (.t 17) 0, none, false⟩,
  ⟨some 21, .ext (.t 17) 1, none, false⟩,
  ⟨some 4, .alloc true [(.int .i64 0), (.int .i64 0), (.int .i64 0), (.int .i64 0), (.int .i64 0), (.int .i64 0), (.int .i64 0), (.int .i64 0), (.int .i64 0), .nils, (.int .i64 0)], none, false⟩,
  ⟨none, .store 11 [] (.t 4) (.t 20), none, false⟩,
  ⟨some 5, .mv (.t 21), none, false⟩])
def s_law21_awake_p3 : SCode := (.region false [⟨some 22, .faddr 6 (.t 1), none, false⟩,
  ⟨some 23, .load none (.t 22), none, false⟩,
  ⟨some 24, .bin .eql (.t 23) (.v (.int .i64 2)), none, false⟩,
  ⟨some 25, .mv (.t 24), none, false⟩,
  ⟨some 26, .mv (.t 3), (some (25, true)), false⟩,
  ⟨some 27, .bin .eql (.t 26) (.v (.int .i64 0)), (some (25, true)), false⟩,
  ⟨some 28, .pick (.t 25) (.t 27) (.v (.bool false)), none, false⟩,
  ⟨some 29, .mv (.t 28), none, false⟩,
  ⟨some 30, .faddr 6 (.t 2), (some (29, true)), false⟩,
  ⟨some 31, .load none (.t 30), (some (29, true)), false⟩,
  ⟨some 32, .bin .eql (.t 31) (.v (.int .i64 1)), (some (29, true)), false⟩,
  ⟨some 33, .pick (.t 29) (.t 32) (.v (.bool false)), none, false⟩,
  ⟨some 34, .mv (.t 33), none, false⟩,
  ⟨some 35, .mv (.t 5), (some (34, true)), false⟩,
  ⟨some 36, .bin .eql (.t 35) (.v (.int .i64 0)), (some (34, true)), false⟩,
  ⟨some 37, .pick (.t 34) (.t 36) (.v (.bool false)), none, false⟩,
  ⟨some 38, .mv (.t 37), none, false⟩,
  ⟨some 39, .faddr 6 (.t 4), (some (38, true)), false⟩,
  ⟨some 40, .load none (.t 39), (some (38, true)), false⟩,
  ⟨some 41, .bin .eql (.t 40) (.v (.int .i64 0)), (some (38, true)), false⟩,
  ⟨some 42, .pick (.t 38) (.t 41) (.v (.bool false)), none, false⟩,
  ⟨some 43, .mv (.t 42), none, false⟩,
  ⟨some 44, .faddr 4 (.t 4), (some (43, true)), false⟩,
  ⟨some 45, .load (some 2) (.t 44), (some (43, true)), false⟩,
  ⟨some 46, .build [(.int .i64 0), (.int .i64 0)] [(0, 1, (.v (.int .i64 1)))], (some (43, true)), false⟩,
  ⟨some 47, .eq false true [.int, .int] (.t 45) (.t 46), (some (43, true)), false⟩,
  ⟨some 48, .pick (.t 43) (.t 47) (.v (.bool false)), none, false⟩,
  ⟨some 0, .mv (.t 48), none, false⟩])
def s_law21_awake_p4 : SCode := (.seq (.region false [⟨some 0, .mv (.v (.bool false)), none, false⟩]) (.seq (.kp [1] s_law21_awake_p0) (.seq (.kp [1, 2, 3] s_law21_awake_p1) (.seq (.kp [1, 2, 3, 4, 5] s_law21_awake_p2) (.seq (.kp [0] s_law21_awake_p3) .ret)))))
def s_law21_awake : SFn := ⟨0, [.t 0], s_law21_awake_p4⟩
def s_law21_UnitAims_p0 : SCode := (.region true [⟨some 5, .load (some 11) (.t 2), none, true⟩,
  ⟨some 7, .load (some 11) (.t 2), none, true⟩,
  ⟨some 6, .call f_unit_Stop [(.t 5)], none, true⟩,
  ⟨some 8, .call f_ref21_Stop [(.t 7)], none, false⟩,
  ⟨some 9, .call f_ref21_Same [(.t 6), (.t 8)], none, false⟩,
  ⟨some 10, .mv (.t 9), none, false⟩,
  ⟨some 11, .load (some 11) (.t 2), (some (10, true)), true⟩,
  ⟨some 12, .load (some 2) (.t 3), (some (10, true)), true⟩,
  ⟨some 14, .load (some 11) (.t 2), (some (10, true)), true⟩,
  ⟨some 15, .load (some 2) (.t 3), (some (10, true)), true⟩,
  ⟨some 13, .call f_unit_Aim [(.t 11), (.t 12)], (some (10, true)), true⟩,
  ⟨some 16, .call f_ref21_Aim [(.t 14), (.t 15)], (some (10, true)), false⟩,
  ⟨some 17, .call f_ref21_Same [(.t 13), (.t 16)], (some (10, true)), false⟩,
  ⟨some 18, .pick (.t 10) (.t 17) (.v (.bool false)), none, false⟩,
  ⟨some 19, .mv (.t 18), none, false⟩,
  ⟨some 20, .call f_law21_awake [], (some (19, true)), false⟩,
  ⟨some 21, .pick (.t 19) (.t 20) (.v (.bool false)), none, false⟩,
  ⟨some 4, .mv (.t 21), none, false⟩])
def s_law21_UnitAims_p1 : SCode := (.seq (.region false [⟨some 2, .box true 11 (.t 0), none, false⟩,
  ⟨some 3, .box true 2 (.t 1), none, false⟩,
  ⟨some 4, .mv (.v (.bool false)), none, false⟩]) (.seq (.kp [4] s_law21_UnitAims_p0) .ret))
def s_law21_UnitAims : SFn := ⟨2, [.t 4], s_law21_UnitAims_p1⟩
def s_ref06_May_p0 : SCode := (.region false [⟨some 3, .faddr 0 (.t 1), none, false⟩,
  ⟨some 4, .load none (.t 3), none, false⟩,
  ⟨some 5, .bin .geq (.t 4) (.v (.int .i64 0)), none, false⟩,
  ⟨some 6, .mv (.t 5), none, false⟩,
  ⟨some 7, .faddr 0 (.t 1), (some (6, true)), false⟩,
  ⟨some 8, .load none (.t 7), (some (6, true)), false⟩,
  ⟨some 9, .bin .lss (.t 8) (.v (.int .i64 4)), (some (6, true)), false⟩,
  ⟨some 10, .pick (.t 6) (.t 9) (.v (.bool false)), none, false⟩,
  ⟨some 11, .mv (.t 10), none, false⟩,
  ⟨some 12, .faddr 1 (.t 1), (some (11, true)), false⟩,
  ⟨some 13, .load none (.t 12), (some (11, true)), false⟩,
  ⟨some 14, .bin .geq (.t 13) (.v (.int .i64 1)), (some (11, true)), false⟩,
  ⟨some 15, .pick (.t 11) (.t 14) (.v (.bool false)), none, false⟩,
  ⟨some 16, .mv (.t 15), none, false⟩,
  ⟨some 17, .faddr 1 (.t 1), (some (16, true)), false⟩,
  ⟨some 18, .load none (.t 17), (some (16, true)), false⟩,
  ⟨some 19, .bin .leq (.t 18) (.v (.int .i64 4)), (some (16, true)), false⟩,
  ⟨some 20, .pick (.t 16) (.t 19) (.v (.bool false)), none, false⟩,
  ⟨some 2, .mv (.t 20), none, false⟩])
def s_ref06_May : SFn := ⟨1, [.t 2], (.seq (.region false [⟨some 1, .box true 2 (.t 0), none, false⟩,
  ⟨some 2, .mv (.v (.bool false)), none, false⟩]) (.seq (.kp [2] s_ref06_May_p0) .ret))⟩
def s_ref21_cell_p0 : SCode := (.region false [⟨some 3, .faddr 0 (.t 1), none, false⟩,
  ⟨some 4, .load none (.t 3), none, false⟩,
  ⟨some 5, .bin .geq (.t 4) (.v (.int .i64 0)), none, false⟩,
  ⟨some 6, .mv (.t 5), none, false⟩,
  ⟨some 7, .faddr 0 (.t 1), (some (6, true)), false⟩,
  ⟨some 8, .load none (.t 7), (some (6, true)), false⟩,
  ⟨some 9, .bin .lss (.t 8) (.v (.int .i64 128)), (some (6, true)), false⟩,
  ⟨some 10, .pick (.t 6) (.t 9) (.v (.bool false)), none, false⟩,
  ⟨some 11, .mv (.t 10), none, false⟩,
  ⟨some 12, .faddr 1 (.t 1), (some (11, true)), false⟩,
  ⟨some 13, .load none (.t 12), (some (11, true)), false⟩,
  ⟨some 14, .bin .geq (.t 13) (.v (.int .i64 0)), (some (11, true)), false⟩,
  ⟨some 15, .pick (.t 11) (.t 14) (.v (.bool false)), none, false⟩,
  ⟨some 16, .mv (.t 15), none, false⟩,
  ⟨some 17, .faddr 1 (.t 1), (some (16, true)), false⟩,
  ⟨some 18, .load none (.t 17), (some (16, true)), false⟩,
  ⟨some 19, .bin .lss (.t 18) (.v (.int .i64 128)), (some (16, true)), false⟩,
  ⟨some 20, .pick (.t 16) (.t 19) (.v (.bool false)), none, false⟩,
  ⟨some 2, .mv (.t 20), none, false⟩])
def s_ref21_cell : SFn := ⟨1, [.t 2], (.seq (.region false [⟨some 1, .box true 2 (.t 0), none, false⟩,
  ⟨some 2, .mv (.v (.bool false)), none, false⟩]) (.seq (.kp [2] s_ref21_cell_p0) .ret))⟩
def s_ref03_Turn_p0 : SCode := (.cond (.t 20) (.seq (.region false [⟨some 2, .mv (.v (.int .i64 1)), none, false⟩,
  ⟨some 3, .mv (.v (.int .i64 (-1))), none, false⟩,
  ⟨some 4, .mv (.v (.bool true)), none, false⟩]) .ret) .skip)
def s_ref03_Turn_p1 : SCode := (.cond (.t 18) (.seq (.region false [⟨some 2, .mv (.v (.int .i64 (-1))), none, false⟩,
  ⟨some 3, .mv (.v (.int .i64 (-1))), none, false⟩,
  ⟨some 4, .mv (.v (.bool true)), none, false⟩]) .ret) (.seq (.region false [⟨some 21, .bin .eql (.t 5) (.v (.int .i64 7)), none, false⟩,
  ⟨some 20, .mv (.t 21), none, false⟩]) s_ref03_Turn_p0))
def s_ref03_Turn_p2 : SCode := (.cond (.t 16) (.seq (.region false [⟨some 2, .mv (.v (.int .i64 (-1))), none, false⟩,
  ⟨some 3, .mv (.v (.int .i64 1)), none, false⟩,
  ⟨some 4, .mv (.v (.bool true)), none, false⟩]) .ret) (.seq (.region false [⟨some 19, .bin .eql (.t 5) (.v (.int .i64 6)), none, false⟩,
  ⟨some 18, .mv (.t 19), none, false⟩]) s_ref03_Turn_p1))
def s_ref03_Turn_p3 : SCode := (.cond (.t 14) (.seq (.region false [⟨some 2, .mv (.v (.int .i64 1)), none, false⟩,
  ⟨some 3, .mv (.v (.int .i64 1)), none, false⟩,
  ⟨some 4, .mv (.v (.bool true)), none, false⟩]) .ret) (.seq (.region false [⟨some 17, .bin .eql (.t 5) (.v (.int .i64 5)), none, false⟩,
  ⟨some 16, .mv (.t 17), none, false⟩]) s_ref03_Turn_p2))
def s_ref03_Turn_p4 : SCode := (.cond (.t 12) (.seq (.region false [⟨some 2, .mv (.v (.int .i64 0)), none, false⟩,
  ⟨some 3, .mv (.v (.int .i64 (-1))), none, false⟩,
  ⟨some 4, .mv (.v (.bool true)), none, false⟩]) .ret) (.seq (.region false [⟨some 15, .bin .eql (.t 5) (.v (.int .i64 4)), none, false⟩,
  ⟨some 14, .mv (.t 15), none, false⟩]) s_ref03_Turn_p3))
def s_ref03_Turn_p5 : SCode := (.cond (.t 10) (.seq (.region false [⟨some 2, .mv (.v (.int .i64 (-1))), none, false⟩,
  ⟨some 3, .mv (.v (.int .i64 0)), none, false⟩,
  ⟨some 4, .mv (.v (.bool true)), none, false⟩]) .ret) (.seq (.region false [⟨some 13, .bin .eql (.t 5) (.v (.int .i64 3)), none, false⟩,
  ⟨some 12, .mv (.t 13), none, false⟩]) s_ref03_Turn_p4))
def s_ref03_Turn_p6 : SCode := (.cond (.t 8) (.seq (.region false [⟨some 2, .mv (.v (.int .i64 0)), none, false⟩,
  ⟨some 3, .mv (.v (.int .i64 1)), none, false⟩,
  ⟨some 4, .mv (.v (.bool true)), none, false⟩]) .ret) (.seq (.region false [⟨some 11, .bin .eql (.t 5) (.v (.int .i64 2)), none, false⟩,
  ⟨some 10, .mv (.t 11), none, false⟩]) s_ref03_Turn_p5))
def s_ref03_Turn_p7 : SCode := (.cond (.t 6) (.seq (.region false [⟨some 2, .mv (.v (.int .i64 1)), none, false⟩,
  ⟨some 3, .mv (.v (.int .i64 0)), none, false⟩,
  ⟨some 4, .mv (.v (.bool true)), none, false⟩]) .ret) (.seq (.region false [⟨some 9, .bin .eql (.t 5) (.v (.int .i64 1)), none, false⟩,
  ⟨some 8, .mv (.t 9), none, false⟩]) s_ref03_Turn_p6))
def s_ref03_Turn_p8 : SCode := (.seq (.region false [⟨some 5, .mv (.t 0), none, false⟩]) (.block 0 (.seq (.region false [⟨some 7, .bin .eql (.t 5) (.v (.int .i64 0)), none, false⟩,
  ⟨some 6, .mv (.t 7), none, false⟩]) s_ref03_Turn_p7)))
def s_ref03_Turn_p9 : SCode := (.seq (.kp [] s_ref03_Turn_p8) (.seq (.region false [⟨some 2, .mv (.v (.int .i64 0)), none, false⟩,
  ⟨some 3, .mv (.v (.int .i64 0)), none, false⟩,
  ⟨some 4, .mv (.v (.bool false)), none, false⟩]) .ret))
def s_ref03_Turn : SFn := ⟨1, [.t 2, .t 3, .t 4], (.seq (.region false [⟨some 2, .mv (.v (.int .i64 0)), none, false⟩,
  ⟨some 3, .mv (.v (.int .i64 0)), none, false⟩,
  ⟨some 4, .mv (.v (.bool false)), none, false⟩]) s_ref03_Turn_p9)⟩
def s_ref03_near_p0 : SCode := (.region false [⟨some 3, .mv (.t 0), none, false⟩,
  ⟨some 4, .bin .geq (.t 3) (.v (.int .i64 (-1048576))), none, false⟩,
  ⟨some 5, .mv (.t 4), none, false⟩,
  ⟨some 6, .mv (.t 0), (some (5, true)), false⟩,
  ⟨some 7, .bin .leq (.t 6) (.v (.int .i64 1048576)), (some (5, true)), false⟩,
  ⟨some 8, .pick (.t 5) (.t 7) (.v (.bool false)), none, false⟩,
  ⟨some 2, .mv (.t 8), none, false⟩])
def s_ref03_near : SFn := ⟨1, [.t 2], (.seq (.region false [⟨some 2, .mv (.v (.bool false)), none, false⟩]) (.seq (.kp [2] s_ref03_near_p0) .ret))⟩
def s_ref03_Near_p0 : SCode := (.region false [⟨some 3, .faddr 0 (.t 1), none, false⟩,
  ⟨some 4, .load none (.t 3), none, false⟩,
  ⟨some 5, .call f_ref03_near [(.t 4)], none, false⟩,
  ⟨some 6, .mv (.t 5), none, false⟩,
  ⟨some 7, .faddr 1 (.t 1), (some (6, true)), false⟩,
  ⟨some 8, .load none (.t 7), (some (6, true)), false⟩,
  ⟨some 9, .call f_ref03_near [(.t 8)], (some (6, true)), false⟩,
  ⟨some 10, .pick (.t 6) (.t 9) (.v (.bool false)), none, false⟩,
  ⟨some 2, .mv (.t 10), none, false⟩])
def s_ref03_Near : SFn := ⟨1, [.t 2], (.seq (.region false [⟨some 1, .box true 2 (.t 0), none, false⟩,
  ⟨some 2, .mv (.v (.bool false)), none, false⟩]) (.seq (.kp [2] s_ref03_Near_p0) .ret))⟩
def s_ref03_Step_p0 : SCode := (.region false [⟨some 11, .mv (.t 1), none, false⟩,
  ⟨some 12, .call f_ref03_Turn [(.t 11)], none, false⟩,
  ⟨some 10, .mv (.t 12), none, false⟩,
  ⟨some 13, .ext (.t 10) 0, none, false⟩,
  ⟨some 14, .ext (.t 10) 1, none, false⟩,
  ⟨some 15, .ext (.t 10) 2, none, false⟩,
  ⟨some 6, .mv (.t 13), none, false⟩,
  ⟨some 7, .mv (.t 14), none, false⟩,
  ⟨some 8, .mv (.t 15), none, false⟩])
def s_ref03_Step_p1 : SCode := (.region false [⟨some 16, .mv (.t 8), none, false⟩,
  ⟨some 17, .un .not (.t 16), none, false⟩,
  ⟨some 18, .mv (.t 17), none, false⟩,
  ⟨some 19, .load (some 2) (.t 2), (some (18, false)), false⟩,
  ⟨some 20, .call f_ref03_Near [(.t 19)], (some (18, false)), false⟩,
  ⟨some 21, .un .not (.t 20), (some (18, false)), false⟩,
  ⟨some 22, .pick (.t 18) (.v (.bool true)) (.t 21), none, false⟩])
def s_ref03_Step_p2 : SCode := (.region false [⟨some 23, .build [(.int .i64 0), (.int .i64 0)] [], none, false⟩,
  ⟨none, .store 2 [] (.t 4) (.t 23), none, false⟩,
  ⟨some 5, .mv (.v (.bool false)), none, false⟩])
def s_ref03_Step_p3 : SCode := (.region false [⟨some 24, .faddr 0 (.t 2), none, false⟩,
  ⟨some 25, .load none (.t 24), none, false⟩,
  ⟨some 26, .mv (.t 6), none, false⟩,
  ⟨some 27, .bin .add (.t 25) (.t 26), none, false⟩,
  ⟨some 28, .faddr 1 (.t 2), none, false⟩,
  ⟨some 29, .load none (.t 28), none, false⟩,
  ⟨some 30, .mv (.t 7), none, false⟩,
  ⟨some 31, .bin .add (.t 29) (.t 30), none, false⟩,
  ⟨some 32, .build [(.int .i64 0), (.int .i64 0)] [(0, 1, (.t 27)), (1, 1, (.t 31))], none, false⟩,
  ⟨some 9, .alloc true [(.int .i64 0), (.int .i64 0)], none, false⟩,
  ⟨none, .store 2 [] (.t 9) (.t 32), none, false⟩])
def s_ref03_Step_p4 : SCode := (.region false [⟨some 36, .build [(.int .i64 0), (.int .i64 0)] [], none, false⟩,
  ⟨none, .store 2 [] (.t 4) (.t 36), none, false⟩,
  ⟨some 5, .mv (.v (.bool false)), none, false⟩])
def s_ref03_Step_p5 : SCode := (.seq (.region false [⟨some 33, .load (some 2) (.t 9), none, false⟩,
  ⟨some 34, .call f_ref03_Near [(.t 33)], none, false⟩,
  ⟨some 35, .un .not (.t 34), none, false⟩]) (.cond (.t 35) (.seq s_ref03_Step_p4 .ret) .skip))
def s_ref03_Step_p6 : SCode := (.seq (.kp [4, 9] s_ref03_Step_p5) (.seq (.region false [⟨some 37, .load (some 2) (.t 9), none, false⟩,
  ⟨none, .store 2 [] (.t 4) (.t 37), none, false⟩,
  ⟨some 5, .mv (.v (.bool true)), none, false⟩]) .ret))
def s_ref03_Step_p7 : SCode := (.seq (.region false [⟨some 2, .box true 2 (.t 0), none, false⟩,
  ⟨some 4, .alloc true [(.int .i64 0), (.int .i64 0)], none, false⟩,
  ⟨some 5, .mv (.v (.bool false)), none, false⟩]) (.seq (.kp [2, 4, 6, 7, 8] s_ref03_Step_p0) (.seq (.kp [2, 4, 6, 7] (.seq (.kp [2, 4, 6, 7, 22] s_ref03_Step_p1) (.cond (.t 22) (.seq s_ref03_Step_p2 .ret) .skip))) (.seq (.kp [4, 9] s_ref03_Step_p3) s_ref03_Step_p6))))
def s_ref03_Step : SFn := ⟨2, [.cell 4 (some 2), .t 5], s_ref03_Step_p7⟩
def s_ref03_Dir_p0 : SCode := (.region false [⟨some 13, .load (some 2) (.t 2), none, false⟩,
  ⟨some 14, .mv (.t 5), none, false⟩,
  ⟨some 15, .call f_ref03_Step [(.t 13), (.t 14)], none, false⟩,
  ⟨some 12, .mv (.t 15), none, false⟩,
  ⟨some 16, .ext (.t 12) 0, none, false⟩,
  ⟨some 17, .ext (.t 12) 1, none, false⟩,
  ⟨some 6, .alloc true [(.int .i64 0), (.int .i64 0)], none, false⟩,
  ⟨none, .store 2 [] (.t 6) (.t 16), none, false⟩,
  ⟨some 7, .mv (.t 17), none, false⟩])
def s_ref03_Dir_p1 : SCode := (.region false [⟨some 18, .mv (.t 7), none, false⟩,
  ⟨some 19, .mv (.t 18), none, false⟩,
  ⟨some 20, .load (some 2) (.t 6), (some (19, true)), false⟩,
  ⟨some 21, .load (some 2) (.t 3), (some (19, true)), false⟩,
  ⟨some 22, .eq false true [.int, .int] (.t 20) (.t 21), (some (19, true)), false⟩,
  ⟨some 23, .pick (.t 19) (.t 22) (.v (.bool false)), none, false⟩])
def s_ref03_Dir_p2 : SCode := (.seq (.kp [2, 3, 5, 6, 7] s_ref03_Dir_p0) (.seq (.kp [2, 3, 5, 23] s_ref03_Dir_p1) (.cond (.t 23) (.seq (.region false [⟨some 24, .mv (.t 5), none, false⟩,
  ⟨some 4, .mv (.t 24), none, false⟩]) .ret) .skip)))
def s_ref03_Dir_p3 : SCode := (.seq (.kp [2, 3, 5] (.block 1 s_ref03_Dir_p2)) (.region false [⟨some 10, .mv (.t 5), none, false⟩,
  ⟨some 11, .bin .add (.t 10) (.v (.int .i64 1)), none, false⟩,
  ⟨some 5, .mv (.t 11), none, false⟩]))
def s_ref03_Dir_p4 : SCode := (.seq (.kp [2, 3, 5] (.seq (.region false [⟨some 8, .mv (.t 5), none, false⟩,
  ⟨some 9, .bin .lss (.t 8) (.v (.int .i64 8)), none, false⟩]) (.cond (.t 9) .skip (.exit 0)))) s_ref03_Dir_p3)
def s_ref03_Dir_p5 : SCode := (.seq (.kp [] (.seq (.kp [2, 3, 5] (.region false [⟨some 5, .mv (.v (.int .i64 0)), none, false⟩])) (.block 0 (.loop (some [2, 3, 5]) s_ref03_Dir_p4)))) (.seq (.region false [⟨some 4, .mv (.v (.int .i64 (-1))), none, false⟩]) .ret))
def s_ref03_Dir : SFn := ⟨2, [.t 4], (.seq (.region false [⟨some 2, .box true 2 (.t 0), none, false⟩,
  ⟨some 3, .box true 2 (.t 1), none, false⟩,
  ⟨some 4, .mv (.v (.int .i64 0)), none, false⟩]) s_ref03_Dir_p5)⟩
def s_ref21_May_p0 : SCode := (.region false [⟨some 5, .faddr 0 (.t 1), none, false⟩,
  ⟨some 6, .load none (.t 5), none, false⟩,
  ⟨some 7, .bin .lss (.t 6) (.v (.int .i64 1)), none, false⟩,
  ⟨some 8, .mv (.t 7), none, false⟩,
  ⟨some 9, .faddr 0 (.t 1), (some (8, false)), false⟩,
  ⟨some 10, .load none (.t 9), (some (8, false)), false⟩,
  ⟨some 11, .bin .gtr (.t 10) (.v (.int .i64 2147483647)), (some (8, false)), false⟩,
  ⟨some 12, .pick (.t 8) (.v (.bool true)) (.t 11), none, false⟩,
  ⟨some 13, .mv (.t 12), none, false⟩,
  ⟨some 14, .faddr 1 (.t 1), (some (13, false)), false⟩,
  ⟨some 15, .load none (.t 14), (some (13, false)), false⟩,
  ⟨some 16, .bin .lss (.t 15) (.v (.int .i64 0)), (some (13, false)), false⟩,
  ⟨some 17, .pick (.t 13) (.v (.bool true)) (.t 16), none, false⟩,
  ⟨some 18, .mv (.t 17), none, false⟩,
  ⟨some 19, .faddr 1 (.t 1), (some (18, false)), false⟩,
  ⟨some 20, .load none (.t 19), (some (18, false)), false⟩,
  ⟨some 21, .bin .geq (.t 20) (.v (.int .i64 8)), (some (18, false)), false⟩,
  ⟨some 22, .pick (.t 18) (.v (.bool true)) (.t 21), none, false⟩,
  ⟨some 23, .mv (.t 22), none, false⟩,
  ⟨some 24, .faddr 2 (.t 1), (some (23, false)), false⟩,
  ⟨some 25, .load (some 2) (.t 24), (some (23, false)), false⟩,
  ⟨some 26, .call f_ref06_May [(.t 25)], (some (23, false)), false⟩,
  ⟨some 27, .un .not (.t 26), (some (23, false)), false⟩,
  ⟨some 28, .pick (.t 23) (.v (.bool true)) (.t 27), none, false⟩,
  ⟨some 29, .mv (.t 28), none, false⟩,
  ⟨some 30, .faddr 4 (.t 1), (some (29, false)), false⟩,
  ⟨some 31, .load (some 2) (.t 30), (some (29, false)), false⟩,
  ⟨some 32, .call f_ref21_cell [(.t 31)], (some (29, false)), false⟩,
  ⟨some 33, .un .not (.t 32), (some (29, false)), false⟩,
  ⟨some 34, .pick (.t 29) (.v (.bool true)) (.t 33), none, false⟩,
  ⟨some 35, .mv (.t 34), none, false⟩,
  ⟨some 36, .faddr 7 (.t 1), (some (35, false)), false⟩,
  ⟨some 37, .load (some 2) (.t 36), (some (35, false)), false⟩,
  ⟨some 38, .call f_ref21_cell [(.t 37)], (some (35, false)), false⟩,
  ⟨some 39, .un .not (.t 38), (some (35, false)), false⟩,
  ⟨some 40, .pick (.t 35) (.v (.bool true)) (.t 39), none, false⟩,
  ⟨some 41, .mv (.t 40), none, false⟩,
  ⟨some 42, .faddr 10 (.t 1), (some (41, false)), false⟩,
  ⟨some 43, .load none (.t 42), (some (41, false)), false⟩,
  ⟨some 44, .bin .lss (.t 43) (.v (.int .i64 0)), (some (41, false)), false⟩,
  ⟨some 45, .pick (.t 41) (.v (.bool true)) (.t 44), none, false⟩,
  ⟨some 46, .mv (.t 45), none, false⟩,
  ⟨some 47, .faddr 10 (.t 1), (some (46, false)), false⟩,
  ⟨some 48, .load none (.t 47), (some (46, false)), false⟩,
  ⟨some 49, .bin .gtr (.t 48) (.v (.int .i64 15)), (some (46, false)), false⟩,
  ⟨some 50, .pick (.t 46) (.v (.bool true)) (.t 49), none, false⟩])
def s_ref21_May_p1 : SCode := (.region false [⟨some 55, .faddr 9 (.t 1), none, false⟩,
  ⟨some 56, .load none (.t 55), none, false⟩,
  ⟨some 57, .len (.t 56), none, false⟩,
  ⟨some 58, .bin .eql (.t 57) (.v (.int .i64 0)), none, false⟩,
  ⟨some 59, .mv (.t 58), none, false⟩,
  ⟨some 60, .faddr 7 (.t 1), (some (59, true)), false⟩,
  ⟨some 61, .load (some 2) (.t 60), (some (59, true)), false⟩,
  ⟨some 62, .build [(.int .i64 0), (.int .i64 0)] [], (some (59, true)), false⟩,
  ⟨some 63, .eq false true [.int, .int] (.t 61) (.t 62), (some (59, true)), false⟩,
  ⟨some 64, .pick (.t 59) (.t 63) (.v (.bool false)), none, false⟩,
  ⟨some 65, .mv (.t 64), none, false⟩,
  ⟨some 66, .faddr 10 (.t 1), (some (65, true)), false⟩,
  ⟨some 67, .load none (.t 66), (some (65, true)), false⟩,
  ⟨some 68, .bin .eql (.t 67) (.v (.int .i64 0)), (some (65, true)), false⟩,
  ⟨some 69, .pick (.t 65) (.t 68) (.v (.bool false)), none, false⟩,
  ⟨some 2, .mv (.t 69), none, false⟩])
def s_ref21_May_p2 : SCode := (.region false [⟨some 72, .faddr 9 (.t 1), none, false⟩,
  ⟨some 73, .load none (.t 72), none, false⟩,
  ⟨some 74, .len (.t 73), none, false⟩,
  ⟨some 75, .bin .eql (.t 74) (.v (.int .i64 0)), none, false⟩,
  ⟨some 76, .mv (.t 75), none, false⟩,
  ⟨some 77, .faddr 10 (.t 1), (some (76, true)), false⟩,
  ⟨some 78, .load none (.t 77), (some (76, true)), false⟩,
  ⟨some 79, .bin .eql (.t 78) (.v (.int .i64 0)), (some (76, true)), false⟩,
  ⟨some 80, .pick (.t 76) (.t 79) (.v (.bool false)), none, false⟩,
  ⟨some 2, .mv (.t 80), none, false⟩])
def s_ref21_May_p3 : SCode := (.seq (.region false [⟨some 82, .bin .eql (.t 52) (.v (.int .i64 1)), none, false⟩,
  ⟨some 81, .mv (.t 82), none, false⟩]) (.cond (.t 81) .skip (.seq (.region false [⟨some 2, .mv (.v (.bool false)), none, false⟩]) .ret)))
def s_ref21_May_p4 : SCode := (.cond (.t 53) (.seq (.kp [2] s_ref21_May_p1) .ret) (.seq (.region false [⟨some 71, .bin .eql (.t 52) (.v (.int .i64 2)), none, false⟩,
  ⟨some 70, .mv (.t 71), none, false⟩]) (.cond (.t 70) (.seq (.kp [2] s_ref21_May_p2) .ret) s_ref21_May_p3)))
def s_ref21_May_p5 : SCode := (.seq (.region false [⟨some 51, .faddr 6 (.t 1), none, false⟩,
  ⟨some 52, .load none (.t 51), none, false⟩]) (.block 0 (.seq (.region false [⟨some 54, .bin .eql (.t 52) (.v (.int .i64 0)), none, false⟩,
  ⟨some 53, .mv (.t 54), none, false⟩]) s_ref21_May_p4)))
def s_ref21_May_p6 : SCode := (.region false [⟨some 83, .faddr 9 (.t 1), none, false⟩,
  ⟨some 84, .load none (.t 83), none, false⟩,
  ⟨some 85, .len (.t 84), none, false⟩,
  ⟨some 86, .bin .lss (.t 85) (.v (.int .i64 1)), none, false⟩,
  ⟨some 87, .mv (.t 86), none, false⟩,
  ⟨some 88, .faddr 9 (.t 1), (some (87, false)), false⟩,
  ⟨some 89, .load none (.t 88), (some (87, false)), false⟩,
  ⟨some 90, .len (.t 89), (some (87, false)), false⟩,
  ⟨some 91, .bin .gtr (.t 90) (.v (.int .i64 16384)), (some (87, false)), false⟩,
  ⟨some 92, .pick (.t 87) (.v (.bool true)) (.t 91), none, false⟩])
def s_ref21_May_p7 : SCode := (.region false [⟨some 93, .faddr 4 (.t 1), none, false⟩,
  ⟨some 94, .load (some 2) (.t 93), none, false⟩,
  ⟨some 3, .alloc true [(.int .i64 0), (.int .i64 0)], none, false⟩,
  ⟨none, .store 2 [] (.t 3) (.t 94), none, false⟩])
def s_ref21_May_p8 : SCode := (.region false [⟨some 95, .mv (.t 4), none, false⟩,
  ⟨some 96, .faddr 9 (.t 1), none, false⟩,
  ⟨some 97, .load none (.t 96), none, false⟩,
  ⟨some 98, .len (.t 97), none, false⟩,
  ⟨some 99, .bin .lss (.t 95) (.t 98), none, false⟩])
def s_ref21_May_p9 : SCode := (.region true [⟨some 102, .faddr 9 (.t 1), none, false⟩,
  ⟨some 103, .load none (.t 102), none, false⟩,
  ⟨some 104, .mv (.t 4), none, true⟩,
  ⟨some 105, .iaddr 2 (.t 103) (.t 104), none, false⟩,
  ⟨some 106, .load (some 2) (.t 105), none, false⟩,
  ⟨some 107, .call f_ref21_cell [(.t 106)], none, false⟩,
  ⟨some 108, .un .not (.t 107), none, false⟩,
  ⟨some 109, .mv (.t 108), none, false⟩,
  ⟨some 110, .load (some 2) (.t 3), (some (109, false)), true⟩,
  ⟨some 111, .faddr 9 (.t 1), (some (109, false)), true⟩,
  ⟨some 112, .load none (.t 111), (some (109, false)), true⟩,
  ⟨some 113, .mv (.t 4), (some (109, false)), true⟩,
  ⟨some 114, .iaddr 2 (.t 112) (.t 113), (some (109, false)), true⟩,
  ⟨some 115, .load (some 2) (.t 114), (some (109, false)), true⟩,
  ⟨some 116, .call f_ref03_Dir [(.t 110), (.t 115)], (some (109, false)), false⟩,
  ⟨some 117, .bin .lss (.t 116) (.v (.int .i64 0)), (some (109, false)), false⟩,
  ⟨some 118, .pick (.t 109) (.v (.bool true)) (.t 117), none, false⟩])
def s_ref21_May_p10 : SCode := (.region false [⟨some 119, .faddr 9 (.t 1), none, false⟩,
  ⟨some 120, .load none (.t 119), none, false⟩,
  ⟨some 121, .mv (.t 4), none, false⟩,
  ⟨some 122, .iaddr 2 (.t 120) (.t 121), none, false⟩,
  ⟨some 123, .load (some 2) (.t 122), none, false⟩,
  ⟨none, .store 2 [] (.t 3) (.t 123), none, false⟩])
def s_ref21_May_p11 : SCode := (.kp [1, 3, 4] (.block 2 (.seq (.kp [1, 3, 4] (.seq (.kp [1, 3, 4, 118] s_ref21_May_p9) (.cond (.t 118) (.seq (.region false [⟨some 2, .mv (.v (.bool false)), none, false⟩]) .ret) .skip))) s_ref21_May_p10)))
def s_ref21_May_p12 : SCode := (.seq (.kp [1, 3, 4] (.seq (.kp [1, 3, 4, 99] s_ref21_May_p8) (.cond (.t 99) .skip (.exit 1)))) (.seq s_ref21_May_p11 (.region false [⟨some 100, .mv (.t 4), none, false⟩,
  ⟨some 101, .bin .add (.t 100) (.v (.int .i64 1)), none, false⟩,
  ⟨some 4, .mv (.t 101), none, false⟩])))
def s_ref21_May_p13 : SCode := (.region false [⟨some 124, .load (some 2) (.t 3), none, false⟩,
  ⟨some 125, .faddr 7 (.t 1), none, false⟩,
  ⟨some 126, .load (some 2) (.t 125), none, false⟩,
  ⟨some 127, .eq false true [.int, .int] (.t 124) (.t 126), none, false⟩,
  ⟨some 2, .mv (.t 127), none, false⟩])
def s_ref21_May_p14 : SCode := (.seq s_ref21_May_p7 (.seq (.kp [1, 3] (.seq (.kp [1, 3, 4] (.region false [⟨some 4, .mv (.v (.int .i64 0)), none, false⟩])) (.block 1 (.loop (some [1, 3, 4]) s_ref21_May_p12)))) (.seq (.kp [2] s_ref21_May_p13) .ret)))
def s_ref21_May_p15 : SCode := (.seq (.kp [1] (.seq (.kp [1, 50] s_ref21_May_p0) (.cond (.t 50) (.seq (.region false [⟨some 2, .mv (.v (.bool false)), none, false⟩]) .ret) .skip))) (.seq (.kp [1] s_ref21_May_p5) (.seq (.kp [1] (.seq (.kp [1, 92] s_ref21_May_p6) (.cond (.t 92) (.seq (.region false [⟨some 2, .mv (.v (.bool false)), none, false⟩]) .ret) .skip))) s_ref21_May_p14)))
def s_ref21_May : SFn := ⟨1, [.t 2], (.seq (.region false [⟨some 1, .box true 11 (.t 0), none, false⟩,
  ⟨some 2, .mv (.v (.bool false)), none, false⟩]) s_ref21_May_p15)⟩
def s_ref21_Give_p0 : SCode := (.region false [⟨some 2, .box true 11 (.t 0), none, false⟩,
  ⟨some 4, .alloc true [(.int .i64 0), (.int .i64 0), (.int .i64 0), (.int .i64 0), (.int .i64 0), (.int .i64 0), (.int .i64 0), (.int .i64 0), (.int .i64 0), .nils, (.int .i64 0)], none, false⟩,
  ⟨some 5, .mv (.v (.int .i64 0)), none, false⟩])
def s_ref21_Give_p1 : SCode := (.region false [⟨some 7, .load (some 11) (.t 2), none, false⟩,
  ⟨some 8, .call f_ref21_May [(.t 7)], none, false⟩,
  ⟨some 9, .un .not (.t 8), none, false⟩,
  ⟨some 10, .mv (.t 9), none, false⟩,
  ⟨some 11, .faddr 6 (.t 2), (some (10, false)), false⟩,
  ⟨some 12, .load none (.t 11), (some (10, false)), false⟩,
  ⟨some 13, .bin .neq (.t 12) (.v (.int .i64 2)), (some (10, false)), false⟩,
  ⟨some 14, .pick (.t 10) (.v (.bool true)) (.t 13), none, false⟩])
def s_ref21_Give_p2 : SCode := (.region false [⟨some 15, .build [(.int .i64 0), (.int .i64 0), (.int .i64 0), (.int .i64 0), (.int .i64 0), (.int .i64 0), (.int .i64 0), (.int .i64 0), (.int .i64 0), .nils, (.int .i64 0)] [], none, false⟩,
  ⟨none, .store 11 [] (.t 4) (.t 15), none, false⟩,
  ⟨some 5, .mv (.v (.int .i64 1)), none, false⟩])
def s_ref21_Give_p3 : SCode := (.region false [⟨some 16, .load (some 11) (.t 2), none, false⟩,
  ⟨some 6, .alloc true [(.int .i64 0), (.int .i64 0), (.int .i64 0), (.int .i64 0), (.int .i64 0), (.int .i64 0), (.int .i64 0), (.int .i64 0), (.int .i64 0), .nils, (.int .i64 0)], none, false⟩,
  ⟨none, .store 11 [] (.t 6) (.t 16), none, false⟩])
def s_ref21_Give_p4 : SCode := (.region false [⟨some 18, .bslice [] 0 2 [], none, false⟩,
  ⟨some 19, .mv (.t 1), none, false⟩,
  ⟨some 20, .append 2 16 [(.int .i64 0), (.int .i64 0)] [] (.t 18) (.t 19), none, false⟩,
  ⟨some 21, .faddr 9 (.t 6), none, false⟩,
  ⟨none, .store 1 [] (.t 21) (.t 20), none, false⟩])
def s_ref21_Give_p5 : SCode := (.region false [⟨some 25, .build [(.int .i64 0), (.int .i64 0), (.int .i64 0), (.int .i64 0), (.int .i64 0), (.int .i64 0), (.int .i64 0), (.int .i64 0), (.int .i64 0), .nils, (.int .i64 0)] [], none, false⟩,
  ⟨none, .store 11 [] (.t 4) (.t 25), none, false⟩,
  ⟨some 5, .mv (.v (.int .i64 1)), none, false⟩])
def s_ref21_Give_p6 : SCode := (.seq (.region false [⟨some 22, .load (some 11) (.t 6), none, false⟩,
  ⟨some 23, .call f_ref21_May [(.t 22)], none, false⟩,
  ⟨some 24, .un .not (.t 23), none, false⟩]) (.cond (.t 24) (.seq s_ref21_Give_p5 .ret) .skip))
def s_ref21_Give_p7 : SCode := (.seq (.kp [4, 6] s_ref21_Give_p6) (.seq (.region false [⟨some 26, .load (some 11) (.t 6), none, false⟩,
  ⟨none, .store 11 [] (.t 4) (.t 26), none, false⟩,
  ⟨some 5, .mv (.v (.int .i64 0)), none, false⟩]) .ret))
def s_ref21_Give_p8 : SCode := (.seq (.kp [1, 2, 4] (.seq (.kp [1, 2, 4, 14] s_ref21_Give_p1) (.cond (.t 14) (.seq s_ref21_Give_p2 .ret) .skip))) (.seq s_ref21_Give_p3 (.seq (.region false [⟨some 17, .faddr 6 (.t 6), none, false⟩,
  ⟨none, .store 1 [] (.t 17) (.v (.int .i64 1)), none, false⟩]) (.seq (.kp [4, 6] s_ref21_Give_p4) s_ref21_Give_p7))))
def s_ref21_Give : SFn := ⟨2, [.cell 4 (some 11), .t 5], (.seq s_ref21_Give_p0 s_ref21_Give_p8)⟩
def s_law21_same_p0 : SCode := (.region false [⟨some 9, .mv (.t 1), none, false⟩,
  ⟨some 10, .mv (.t 3), none, false⟩,
  ⟨some 11, .bin .eql (.t 9) (.t 10), none, false⟩,
  ⟨some 12, .mv (.t 11), none, false⟩,
  ⟨some 13, .load (some 11) (.t 4), (some (12, true)), false⟩,
  ⟨some 14, .load (some 11) (.t 6), (some (12, true)), false⟩,
  ⟨some 15, .call f_ref21_Same [(.t 13), (.t 14)], (some (12, true)), false⟩,
  ⟨some 16, .pick (.t 12) (.t 15) (.v (.bool false)), none, false⟩,
  ⟨some 8, .mv (.t 16), none, false⟩])
def s_law21_same_p1 : SCode := (.seq (.region false [⟨some 4, .box true 11 (.t 0), none, false⟩,
  ⟨some 6, .box true 11 (.t 2), none, false⟩,
  ⟨some 8, .mv (.v (.bool false)), none, false⟩]) (.seq (.kp [8] s_law21_same_p0) .ret))
def s_law21_same : SFn := ⟨4, [.t 8], s_law21_same_p1⟩
def s_law21_UnitGives_p0 : SCode := (.region false [⟨some 11, .bslice [] 0 2 [], none, false⟩,
  ⟨some 12, .mv (.t 1), none, false⟩,
  ⟨some 13, .append 2 16 [(.int .i64 0), (.int .i64 0)] [] (.t 11) (.t 12), none, false⟩,
  ⟨some 5, .mv (.t 13), none, false⟩])
def s_law21_UnitGives_p1 : SCode := (.region false [⟨some 15, .load (some 11) (.t 2), none, false⟩,
  ⟨some 16, .mv (.t 5), none, false⟩,
  ⟨some 17, .call f_unit_Give [(.t 15), (.t 16)], none, false⟩,
  ⟨some 14, .mv (.t 17), none, false⟩,
  ⟨some 18, .ext (.t 14) 0, none, false⟩,
  ⟨some 19, .ext (.t 14) 1, none, false⟩,
  ⟨some 6, .alloc true [(.int .i64 0), (.int .i64 0), (.int .i64 0), (.int .i64 0), (.int .i64 0), (.int .i64 0), (.int .i64 0), (.int .i64 0), (.int .i64 0), .nils, (.int .i64 0)], none, false⟩,
  ⟨none, .store 11 [] (.t 6) (.t 18), none, false⟩,
  ⟨some 7, .mv (.t 19), none, false⟩])
def s_law21_UnitGives_p2 : SCode := (.region false [⟨some 21, .load (some 11) (.t 2), none, false⟩,
  ⟨some 22, .mv (.t 1), none, false⟩,
  ⟨some 23, .call f_ref21_Give [(.t 21), (.t 22)], none, false⟩,
  ⟨some 20, .mv (.t 23), none, false⟩,
  ⟨some 24, .ext (.t 20) 0, none, false⟩,
  ⟨some 25, .ext (.t 20) 1, none, false⟩,
  ⟨some 8, .alloc true [(.int .i64 0), (.int .i64 0), (.int .i64 0), (.int .i64 0), (.int .i64 0), (.int .i64 0), (.int .i64 0), (.int .i64 0), (.int .i64 0), .nils, (.int .i64 0)], none, false⟩,
  ⟨none, .store 11 [] (.t 8) (.t 24), none, false⟩,
  ⟨some 9, .mv (.t 25), none, false⟩])
def s_law21_UnitGives_p3 : SCode := (.region false [⟨some 26, .mv (.t 10), none, false⟩,
  ⟨some 27, .mv (.t 5), none, false⟩,
  ⟨some 28, .len (.t 27), none, false⟩,
  ⟨some 29, .bin .lss (.t 26) (.t 28), none, false⟩])
def s_law21_UnitGives_p4 : SCode := (.region false [⟨some 32, .mv (.t 5), none, false⟩,
  ⟨some 33, .mv (.t 10), none, false⟩,
  ⟨some 34, .iaddr 2 (.t 32) (.t 33), none, false⟩,
  ⟨some 35, .faddr 0 (.t 34), none, false⟩,
  ⟨none, .store 1 [] (.t 35) (.v (.int .i64 (-7))), none, false⟩])
def s_law21_UnitGives_p5 : SCode := (.seq (.kp [5, 6, 7, 8, 9, 10] (.block 1 s_law21_UnitGives_p4)) (.region false [⟨some 30, .mv (.t 10), none, false⟩,
  ⟨some 31, .bin .add (.t 30) (.v (.int .i64 1)), none, false⟩,
  ⟨some 10, .mv (.t 31), none, false⟩]))
def s_law21_UnitGives_p6 : SCode := (.seq (.kp [5, 6, 7, 8, 9, 10] (.seq s_law21_UnitGives_p3 (.cond (.t 29) .skip (.exit 0)))) s_law21_UnitGives_p5)
def s_law21_UnitGives_p7 : SCode := (.region false [⟨some 36, .load (some 11) (.t 6), none, false⟩,
  ⟨some 37, .mv (.t 7), none, false⟩,
  ⟨some 38, .load (some 11) (.t 8), none, false⟩,
  ⟨some 39, .mv (.t 9), none, false⟩,
  ⟨some 40, .call f_law21_same [(.t 36), (.t 37), (.t 38), (.t 39)], none, false⟩,
  ⟨some 41, .mv (.t 40), none, false⟩,
  ⟨some 42, .call f_law21_awake [], (some (41, true)), false⟩,
  ⟨some 43, .pick (.t 41) (.t 42) (.v (.bool false)), none, false⟩,
  ⟨some 4, .mv (.t 43), none, false⟩])
def s_law21_UnitGives_p8 : SCode := (.seq (.kp [6, 7, 8, 9] (.seq (.kp [5, 6, 7, 8, 9, 10] (.region false [⟨some 10, .mv (.v (.int .i64 0)), none, false⟩])) (.block 0 (.loop (some [5, 6, 7, 8, 9, 10]) s_law21_UnitGives_p6)))) (.seq (.kp [4] s_law21_UnitGives_p7) .ret))
def s_law21_UnitGives_p9 : SCode := (.seq (.region false [⟨some 2, .box true 11 (.t 0), none, false⟩,
  ⟨some 4, .mv (.v (.bool false)), none, false⟩]) (.seq s_law21_UnitGives_p0 (.seq (.kp [1, 2, 5, 6, 7] s_law21_UnitGives_p1) (.seq (.kp [5, 6, 7, 8, 9] s_law21_UnitGives_p2) s_law21_UnitGives_p8))))
def s_law21_UnitGives : SFn := ⟨2, [.t 4], s_law21_UnitGives_p9⟩
def s_law21_UnitWalks_p0 : SCode := (.region false [⟨some 7, .load (some 11) (.t 1), none, false⟩,
  ⟨some 8, .call f_ref21_May [(.t 7)], none, false⟩,
  ⟨some 9, .un .not (.t 8), none, false⟩,
  ⟨some 10, .mv (.t 9), none, false⟩,
  ⟨some 11, .faddr 6 (.t 1), (some (10, false)), false⟩,
  ⟨some 12, .load none (.t 11), (some (10, false)), false⟩,
  ⟨some 13, .bin .neq (.t 12) (.v (.int .i64 1)), (some (10, false)), false⟩,
  ⟨some 14, .pick (.t 10) (.v (.bool true)) (.t 13), none, false⟩])
def s_law21_UnitWalks_p1 : SCode := (.region false [⟨some 16, .load (some 11) (.t 1), none, false⟩,
  ⟨some 3, .alloc true [(.int .i64 0), (.int .i64 0), (.int .i64 0), (.int .i64 0), (.int .i64 0), (.int .i64 0), (.int .i64 0), (.int .i64 0), (.int .i64 0), .nils, (.int .i64 0)], none, false⟩,
  ⟨none, .store 11 [] (.t 3) (.t 16), none, false⟩])
def s_law21_UnitWalks_p2 : SCode := (.region false [⟨some 17, .mv (.t 4), none, false⟩,
  ⟨some 18, .faddr 9 (.t 1), none, false⟩,
  ⟨some 19, .load none (.t 18), none, false⟩,
  ⟨some 20, .len (.t 19), none, false⟩,
  ⟨some 21, .bin .lss (.t 17) (.t 20), none, false⟩])
def s_law21_UnitWalks_p3 : SCode := (.region false [⟨some 25, .load (some 11) (.t 3), none, false⟩,
  ⟨some 26, .call f_unit_Step [(.t 25)], none, false⟩,
  ⟨some 24, .mv (.t 26), none, false⟩,
  ⟨some 27, .ext (.t 24) 0, none, false⟩,
  ⟨some 28, .ext (.t 24) 1, none, false⟩,
  ⟨some 5, .alloc true [(.int .i64 0), (.int .i64 0), (.int .i64 0), (.int .i64 0), (.int .i64 0), (.int .i64 0), (.int .i64 0), (.int .i64 0), (.int .i64 0), .nils, (.int .i64 0)], none, false⟩,
  ⟨none, .store 11 [] (.t 5) (.t 27), none, false⟩,
  ⟨some 6, .mv (.t 28), none, false⟩])
def s_law21_UnitWalks_p4 : SCode := (.region true [⟨some 29, .mv (.t 6), none, false⟩,
  ⟨some 30, .bin .neq (.t 29) (.v (.int .i64 0)), none, false⟩,
  ⟨some 31, .mv (.t 30), none, false⟩,
  ⟨some 32, .faddr 4 (.t 5), (some (31, false)), true⟩,
  ⟨some 33, .load (some 2) (.t 32), (some (31, false)), true⟩,
  ⟨some 34, .faddr 9 (.t 1), (some (31, false)), true⟩,
  ⟨some 35, .load none (.t 34), (some (31, false)), true⟩,
  ⟨some 36, .mv (.t 4), (some (31, false)), true⟩,
  ⟨some 37, .iaddr 2 (.t 35) (.t 36), (some (31, false)), true⟩,
  ⟨some 38, .load (some 2) (.t 37), (some (31, false)), true⟩,
  ⟨some 39, .eq true true [.int, .int] (.t 33) (.t 38), (some (31, false)), false⟩,
  ⟨some 40, .pick (.t 31) (.v (.bool true)) (.t 39), none, false⟩])
def s_law21_UnitWalks_p5 : SCode := (.seq (.kp [1, 3, 4, 5] (.seq (.kp [1, 3, 4, 5, 40] s_law21_UnitWalks_p4) (.cond (.t 40) (.seq (.region false [⟨some 2, .mv (.v (.bool false)), none, false⟩]) .ret) .skip))) (.region false [⟨some 41, .load (some 11) (.t 5), none, false⟩,
  ⟨none, .store 11 [] (.t 3) (.t 41), none, false⟩]))
def s_law21_UnitWalks_p6 : SCode := (.seq (.kp [1, 3, 4] (.block 1 (.seq (.kp [1, 3, 4, 5, 6] s_law21_UnitWalks_p3) s_law21_UnitWalks_p5))) (.region false [⟨some 22, .mv (.t 4), none, false⟩,
  ⟨some 23, .bin .add (.t 22) (.v (.int .i64 1)), none, false⟩,
  ⟨some 4, .mv (.t 23), none, false⟩]))
def s_law21_UnitWalks_p7 : SCode := (.seq (.kp [1, 3, 4] (.seq (.kp [1, 3, 4, 21] s_law21_UnitWalks_p2) (.cond (.t 21) .skip (.exit 0)))) s_law21_UnitWalks_p6)
def s_law21_UnitWalks_p8 : SCode := (.region false [⟨some 42, .faddr 6 (.t 3), none, false⟩,
  ⟨some 43, .load none (.t 42), none, false⟩,
  ⟨some 44, .bin .eql (.t 43) (.v (.int .i64 0)), none, false⟩,
  ⟨some 45, .mv (.t 44), none, false⟩,
  ⟨some 46, .faddr 4 (.t 3), (some (45, true)), false⟩,
  ⟨some 47, .load (some 2) (.t 46), (some (45, true)), false⟩,
  ⟨some 48, .faddr 7 (.t 1), (some (45, true)), false⟩,
  ⟨some 49, .load (some 2) (.t 48), (some (45, true)), false⟩,
  ⟨some 50, .eq false true [.int, .int] (.t 47) (.t 49), (some (45, true)), false⟩,
  ⟨some 51, .pick (.t 45) (.t 50) (.v (.bool false)), none, false⟩,
  ⟨some 52, .mv (.t 51), none, false⟩,
  ⟨some 53, .call f_law21_awake [], (some (52, true)), false⟩,
  ⟨some 54, .pick (.t 52) (.t 53) (.v (.bool false)), none, false⟩,
  ⟨some 2, .mv (.t 54), none, false⟩])
def s_law21_UnitWalks_p9 : SCode := (.seq s_law21_UnitWalks_p1 (.seq (.kp [1, 3] (.seq (.kp [1, 3, 4] (.region false [⟨some 4, .mv (.v (.int .i64 0)), none, false⟩])) (.block 0 (.loop (some [1, 3, 4]) s_law21_UnitWalks_p7)))) (.seq (.kp [2] s_law21_UnitWalks_p8) .ret)))
def s_law21_UnitWalks_p10 : SCode := (.seq (.kp [1] (.seq (.kp [1, 14] s_law21_UnitWalks_p0) (.cond (.t 14) (.seq (.region false [⟨some 15, .call f_law21_awake [], none, false⟩,
  ⟨some 2, .mv (.t 15), none, false⟩]) .ret) .skip))) s_law21_UnitWalks_p9)
def s_law21_UnitWalks : SFn := ⟨1, [.t 2], (.seq (.region false [⟨some 1, .box true 11 (.t 0), none, false⟩,
  ⟨some 2, .mv (.v (.bool false)), none, false⟩]) s_law21_UnitWalks_p10)⟩
def s_unit_Next_p0 : SCode := (.region false [⟨some 4, .faddr 6 (.t 1), none, false⟩,
  ⟨some 5, .load none (.t 4), none, false⟩,
  ⟨some 6, .bin .neq (.t 5) (.v (.int .i64 1)), none, false⟩,
  ⟨some 7, .mv (.t 6), none, false⟩,
  ⟨some 8, .faddr 9 (.t 1), (some (7, false)), false⟩,
  ⟨some 9, .load none (.t 8), (some (7, false)), false⟩,
  ⟨some 10, .len (.t 9), (some (7, false)), false⟩,
  ⟨some 11, .bin .eql (.t 10) (.v (.int .i64 0)), (some (7, false)), false⟩,
  ⟨some 12, .pick (.t 7) (.v (.bool true)) (.t 11), none, false⟩])
def s_unit_Next_p1 : SCode := (.region false [⟨some 13, .build [(.int .i64 0), (.int .i64 0)] [], none, false⟩,
  ⟨none, .store 2 [] (.t 2) (.t 13), none, false⟩,
  ⟨some 3, .mv (.v (.bool false)), none, false⟩])
def s_unit_Next_p2 : SCode := (.region false [⟨some 14, .faddr 9 (.t 1), none, false⟩,
  ⟨some 15, .load none (.t 14), none, false⟩,
  ⟨some 16, .iaddr 2 (.t 15) (.v (.int .i64 0)), none, false⟩,
  ⟨some 17, .load (some 2) (.t 16), none, false⟩,
  ⟨none, .store 2 [] (.t 2) (.t 17), none, false⟩,
  ⟨some 3, .mv (.v (.bool true)), none, false⟩])
def s_unit_Next_p3 : SCode := (.seq (.region false [⟨some 1, .box true 11 (.t 0), none, false⟩,
  ⟨some 2, .alloc true [(.int .i64 0), (.int .i64 0)], none, false⟩,
  ⟨some 3, .mv (.v (.bool false)), none, false⟩]) (.seq (.kp [1, 2] (.seq (.kp [1, 2, 12] s_unit_Next_p0) (.cond (.t 12) (.seq s_unit_Next_p1 .ret) .skip))) (.seq (.kp [2, 3] s_unit_Next_p2) .ret)))
def s_unit_Next : SFn := ⟨1, [.cell 2 (some 2), .t 3], s_unit_Next_p3⟩
def s_ref21_Next_p0 : SCode := (.region false [⟨some 4, .faddr 6 (.t 1), none, false⟩,
  ⟨some 5, .load none (.t 4), none, false⟩,
  ⟨some 6, .bin .neq (.t 5) (.v (.int .i64 1)), none, false⟩,
  ⟨some 7, .mv (.t 6), none, false⟩,
  ⟨some 8, .faddr 9 (.t 1), (some (7, false)), false⟩,
  ⟨some 9, .load none (.t 8), (some (7, false)), false⟩,
  ⟨some 10, .len (.t 9), (some (7, false)), false⟩,
  ⟨some 11, .bin .eql (.t 10) (.v (.int .i64 0)), (some (7, false)), false⟩,
  ⟨some 12, .pick (.t 7) (.v (.bool true)) (.t 11), none, false⟩])
def s_ref21_Next_p1 : SCode := (.region false [⟨some 13, .build [(.int .i64 0), (.int .i64 0)] [], none, false⟩,
  ⟨none, .store 2 [] (.t 2) (.t 13), none, false⟩,
  ⟨some 3, .mv (.v (.bool false)), none, false⟩])
def s_ref21_Next_p2 : SCode := (.region false [⟨some 14, .faddr 9 (.t 1), none, false⟩,
  ⟨some 15, .load none (.t 14), none, false⟩,
  ⟨some 16, .iaddr 2 (.t 15) (.v (.int .i64 0)), none, false⟩,
  ⟨some 17, .load (some 2) (.t 16), none, false⟩,
  ⟨none, .store 2 [] (.t 2) (.t 17), none, false⟩,
  ⟨some 3, .mv (.v (.bool true)), none, false⟩])
def s_ref21_Next_p3 : SCode := (.seq (.region false [⟨some 1, .box true 11 (.t 0), none, false⟩,
  ⟨some 2, .alloc true [(.int .i64 0), (.int .i64 0)], none, false⟩,
  ⟨some 3, .mv (.v (.bool false)), none, false⟩]) (.seq (.kp [1, 2] (.seq (.kp [1, 2, 12] s_ref21_Next_p0) (.cond (.t 12) (.seq s_ref21_Next_p1 .ret) .skip))) (.seq (.kp [2, 3] s_ref21_Next_p2) .ret)))
def s_ref21_Next : SFn := ⟨1, [.cell 2 (some 2), .t 3], s_ref21_Next_p3⟩
def s_ref21_errno_p0 : SCode := (.seq (.kp [] (.seq (.region false [⟨some 3, .mv (.t 0), none, false⟩]) (.cond (.t 3) (.seq (.region false [⟨some 2, .mv (.v (.int .i64 0)), none, false⟩]) .ret) .skip))) (.seq (.region false [⟨some 2, .mv (.v (.int .i64 1)), none, false⟩]) .ret))
def s_ref21_errno : SFn := ⟨1, [.t 2], (.seq (.region false [⟨some 2, .mv (.v (.int .i64 0)), none, false⟩]) s_ref21_errno_p0)⟩
def s_ref21_Check_p0 : SCode := (.region false [⟨some 3, .load (some 11) (.t 1), none, false⟩,
  ⟨some 4, .call f_ref21_May [(.t 3)], none, false⟩,
  ⟨some 5, .call f_ref21_errno [(.t 4)], none, false⟩,
  ⟨some 2, .mv (.t 5), none, false⟩])
def s_ref21_Check : SFn := ⟨1, [.t 2], (.seq (.region false [⟨some 1, .box true 11 (.t 0), none, false⟩,
  ⟨some 2, .mv (.v (.int .i64 0)), none, false⟩]) (.seq s_ref21_Check_p0 .ret))⟩
def s_law21_UnitChecks_p0 : SCode := (.region false [⟨some 8, .load (some 11) (.t 1), none, false⟩,
  ⟨some 9, .call f_unit_Next [(.t 8)], none, false⟩,
  ⟨some 7, .mv (.t 9), none, false⟩,
  ⟨some 10, .ext (.t 7) 0, none, false⟩,
  ⟨some 11, .ext (.t 7) 1, none, false⟩,
  ⟨some 3, .alloc true [(.int .i64 0), (.int .i64 0)], none, false⟩,
  ⟨none, .store 2 [] (.t 3) (.t 10), none, false⟩,
  ⟨some 4, .mv (.t 11), none, false⟩])
def s_law21_UnitChecks_p1 : SCode := (.region false [⟨some 13, .load (some 11) (.t 1), none, false⟩,
  ⟨some 14, .call f_ref21_Next [(.t 13)], none, false⟩,
  ⟨some 12, .mv (.t 14), none, false⟩,
  ⟨some 15, .ext (.t 12) 0, none, false⟩,
  ⟨some 16, .ext (.t 12) 1, none, false⟩,
  ⟨some 5, .alloc true [(.int .i64 0), (.int .i64 0)], none, false⟩,
  ⟨none, .store 2 [] (.t 5) (.t 15), none, false⟩,
  ⟨some 6, .mv (.t 16), none, false⟩])
def s_law21_UnitChecks_p2 : SCode := (.region true [⟨some 17, .load (some 11) (.t 1), none, true⟩,
  ⟨some 19, .load (some 11) (.t 1), none, true⟩,
  ⟨some 18, .call f_unit_Check [(.t 17)], none, true⟩,
  ⟨some 20, .call f_ref21_Check [(.t 19)], none, false⟩,
  ⟨some 21, .bin .eql (.t 18) (.t 20), none, false⟩,
  ⟨some 22, .mv (.t 21), none, false⟩,
  ⟨some 23, .load (some 2) (.t 3), (some (22, true)), true⟩,
  ⟨some 24, .load (some 2) (.t 5), (some (22, true)), true⟩,
  ⟨some 25, .eq false true [.int, .int] (.t 23) (.t 24), (some (22, true)), false⟩,
  ⟨some 26, .pick (.t 22) (.t 25) (.v (.bool false)), none, false⟩,
  ⟨some 27, .mv (.t 26), none, false⟩,
  ⟨some 28, .mv (.t 4), (some (27, true)), false⟩,
  ⟨some 29, .mv (.t 6), (some (27, true)), false⟩,
  ⟨some 30, .eq false false [.bool] (.t 28) (.t 29), (some (27, true)), false⟩,
  ⟨some 31, .pick (.t 27) (.t 30) (.v (.bool false)), none, false⟩,
  ⟨some 32, .mv (.t 31), none, false⟩,
  ⟨some 33, .call f_law21_awake [], (some (32, true)), false⟩,
  ⟨some 34, .pick (.t 32) (.t 33) (.v (.bool false)), none, false⟩,
  ⟨some 2, .mv (.t 34), none, false⟩])
def s_law21_UnitChecks_p3 : SCode := (.seq (.region false [⟨some 1, .box true 11 (.t 0), none, false⟩,
  ⟨some 2, .mv (.v (.bool false)), none, false⟩]) (.seq (.kp [1, 3, 4] s_law21_UnitChecks_p0) (.seq (.kp [1, 3, 4, 5, 6] s_law21_UnitChecks_p1) (.seq (.kp [2] s_law21_UnitChecks_p2) .ret))))
def s_law21_UnitChecks : SFn := ⟨1, [.t 2], s_law21_UnitChecks_p3⟩
def s_ref21_Step_p0 : SCode := (.region false [⟨some 1, .box true 11 (.t 0), none, false⟩,
  ⟨some 2, .alloc true [(.int .i64 0), (.int .i64 0), (.int .i64 0), (.int .i64 0), (.int .i64 0), (.int .i64 0), (.int .i64 0), (.int .i64 0), (.int .i64 0), .nils, (.int .i64 0)], none, false⟩,
  ⟨some 3, .mv (.v (.int .i64 0)), none, false⟩])
def s_ref21_Step_p1 : SCode := (.region false [⟨some 5, .load (some 11) (.t 1), none, false⟩,
  ⟨some 6, .call f_ref21_May [(.t 5)], none, false⟩,
  ⟨some 7, .un .not (.t 6), none, false⟩,
  ⟨some 8, .mv (.t 7), none, false⟩,
  ⟨some 9, .faddr 6 (.t 1), (some (8, false)), false⟩,
  ⟨some 10, .load none (.t 9), (some (8, false)), false⟩,
  ⟨some 11, .bin .neq (.t 10) (.v (.int .i64 1)), (some (8, false)), false⟩,
  ⟨some 12, .pick (.t 8) (.v (.bool true)) (.t 11), none, false⟩])
def s_ref21_Step_p2 : SCode := (.region false [⟨some 13, .build [(.int .i64 0), (.int .i64 0), (.int .i64 0), (.int .i64 0), (.int .i64 0), (.int .i64 0), (.int .i64 0), (.int .i64 0), (.int .i64 0), .nils, (.int .i64 0)] [], none, false⟩,
  ⟨none, .store 11 [] (.t 2) (.t 13), none, false⟩,
  ⟨some 3, .mv (.v (.int .i64 1)), none, false⟩])
def s_ref21_Step_p3 : SCode := (.region false [⟨some 14, .load (some 11) (.t 1), none, false⟩,
  ⟨some 4, .alloc true [(.int .i64 0), (.int .i64 0), (.int .i64 0), (.int .i64 0), (.int .i64 0), (.int .i64 0), (.int .i64 0), (.int .i64 0), (.int .i64 0), .nils, (.int .i64 0)], none, false⟩,
  ⟨none, .store 11 [] (.t 4) (.t 14), none, false⟩])
def s_ref21_Step_p4 : SCode := (.region false [⟨some 15, .faddr 9 (.t 1), none, false⟩,
  ⟨some 16, .load none (.t 15), none, false⟩,
  ⟨some 17, .iaddr 2 (.t 16) (.v (.int .i64 0)), none, false⟩,
  ⟨some 18, .load (some 2) (.t 17), none, false⟩,
  ⟨some 19, .faddr 4 (.t 4), none, false⟩,
  ⟨none, .store 2 [] (.t 19) (.t 18), none, false⟩])
def s_ref21_Step_p5 : SCode := (.region false [⟨some 20, .bslice [] 0 2 [], none, false⟩,
  ⟨some 21, .faddr 9 (.t 1), none, false⟩,
  ⟨some 22, .load none (.t 21), none, false⟩,
  ⟨some 23, .slice 2 (.t 22) (some (.v (.int .i64 1))) none none, none, false⟩,
  ⟨some 24, .append 2 16 [(.int .i64 0), (.int .i64 0)] [] (.t 20) (.t 23), none, false⟩,
  ⟨some 25, .faddr 9 (.t 4), none, false⟩,
  ⟨none, .store 1 [] (.t 25) (.t 24), none, false⟩])
def s_ref21_Step_p6 : SCode := (.region false [⟨some 27, .faddr 9 (.t 4), none, false⟩,
  ⟨some 28, .load none (.t 27), none, false⟩,
  ⟨some 29, .len (.t 28), none, false⟩,
  ⟨some 30, .bin .eql (.t 29) (.v (.int .i64 0)), none, false⟩])
def s_ref21_Step_p7 : SCode := (.region false [⟨some 31, .load (some 11) (.t 4), none, false⟩,
  ⟨some 32, .call f_ref21_Stop [(.t 31)], none, false⟩,
  ⟨none, .store 11 [] (.t 2) (.t 32), none, false⟩,
  ⟨some 3, .mv (.v (.int .i64 0)), none, false⟩])
def s_ref21_Step_p8 : SCode := (.seq (.kp [2, 4] (.seq s_ref21_Step_p6 (.cond (.t 30) (.seq s_ref21_Step_p7 .ret) .skip))) (.seq (.region false [⟨some 33, .load (some 11) (.t 4), none, false⟩,
  ⟨none, .store 11 [] (.t 2) (.t 33), none, false⟩,
  ⟨some 3, .mv (.v (.int .i64 0)), none, false⟩]) .ret))
def s_ref21_Step_p9 : SCode := (.seq (.kp [1, 2, 4] s_ref21_Step_p4) (.seq (.kp [2, 4] s_ref21_Step_p5) (.seq (.region false [⟨some 26, .faddr 10 (.t 4), none, false⟩,
  ⟨none, .store 1 [] (.t 26) (.v (.int .i64 0)), none, false⟩]) s_ref21_Step_p8)))
def s_ref21_Step : SFn := ⟨1, [.cell 2 (some 11), .t 3], (.seq s_ref21_Step_p0 (.seq (.kp [1, 2] (.seq (.kp [1, 2, 12] s_ref21_Step_p1) (.cond (.t 12) (.seq s_ref21_Step_p2 .ret) .skip))) (.seq s_ref21_Step_p3 s_ref21_Step_p9)))⟩
def s_unit_Hold_p0 : SCode := (.region false [⟨some 1, .box true 11 (.t 0), none, false⟩,
  ⟨some 2, .alloc true [(.int .i64 0), (.int .i64 0), (.int .i64 0), (.int .i64 0), (.int .i64 0), (.int .i64 0), (.int .i64 0), (.int .i64 0), (.int .i64 0), .nils, (.int .i64 0)], none, false⟩,
  ⟨some 3, .mv (.v (.int .i64 0)), none, false⟩])
def s_unit_Hold_p1 : SCode := (.region false [⟨some 7, .build [(.int .i64 0), (.int .i64 0), (.int .i64 0), (.int .i64 0), (.int .i64 0), (.int .i64 0), (.int .i64 0), (.int .i64 0), (.int .i64 0), .nils, (.int .i64 0)] [], none, false⟩,
  ⟨none, .store 11 [] (.t 2) (.t 7), none, false⟩,
  ⟨some 3, .mv (.v (.int .i64 1)), none, false⟩])
def s_unit_Hold_p2 : SCode := (.seq (.region false [⟨some 4, .load (some 11) (.t 1), none, false⟩,
  ⟨some 5, .call f_unit_goes [(.t 4)], none, false⟩,
  ⟨some 6, .un .not (.t 5), none, false⟩]) (.cond (.t 6) (.seq s_unit_Hold_p1 .ret) .skip))
def s_unit_Hold_p3 : SCode := (.region false [⟨some 8, .faddr 9 (.t 1), none, false⟩,
  ⟨some 9, .load none (.t 8), none, false⟩,
  ⟨some 10, .call f_slices_Clone_api_Cell_api_Cell [(.t 9)], none, false⟩,
  ⟨some 11, .faddr 9 (.t 1), none, false⟩,
  ⟨none, .store 1 [] (.t 11) (.t 10), none, false⟩])
def s_unit_Hold_p4 : SCode := (.region false [⟨some 12, .faddr 10 (.t 1), none, false⟩,
  ⟨some 13, .load none (.t 12), none, false⟩,
  ⟨some 14, .bin .add (.t 13) (.v (.int .i64 1)), none, false⟩,
  ⟨some 15, .mxmn false [(.t 14), (.v (.int .i64 15))], none, false⟩,
  ⟨some 16, .faddr 10 (.t 1), none, false⟩,
  ⟨none, .store 1 [] (.t 16) (.t 15), none, false⟩])
def s_unit_Hold_p5 : SCode := (.seq (.kp [1, 2] s_unit_Hold_p4) (.seq (.region false [⟨some 17, .load (some 11) (.t 1), none, false⟩,
  ⟨none, .store 11 [] (.t 2) (.t 17), none, false⟩,
  ⟨some 3, .mv (.v (.int .i64 0)), none, false⟩]) .ret))
def s_unit_Hold : SFn := ⟨1, [.cell 2 (some 11), .t 3], (.seq s_unit_Hold_p0 (.seq (.kp [1, 2] s_unit_Hold_p2) (.seq (.kp [1, 2] s_unit_Hold_p3) s_unit_Hold_p5)))⟩
def s_ref21_Hold_p0 : SCode := (.region false [⟨some 1, .box true 11 (.t 0), none, false⟩,
  ⟨some 2, .alloc true [(.int .i64 0), (.int .i64 0), (.int .i64 0), (.int .i64 0), (.int .i64 0), (.int .i64 0), (.int .i64 0), (.int .i64 0), (.int .i64 0), .nils, (.int .i64 0)], none, false⟩,
  ⟨some 3, .mv (.v (.int .i64 0)), none, false⟩])
def s_ref21_Hold_p1 : SCode := (.region false [⟨some 5, .load (some 11) (.t 1), none, false⟩,
  ⟨some 6, .call f_ref21_May [(.t 5)], none, false⟩,
  ⟨some 7, .un .not (.t 6), none, false⟩,
  ⟨some 8, .mv (.t 7), none, false⟩,
  ⟨some 9, .faddr 6 (.t 1), (some (8, false)), false⟩,
  ⟨some 10, .load none (.t 9), (some (8, false)), false⟩,
  ⟨some 11, .bin .neq (.t 10) (.v (.int .i64 1)), (some (8, false)), false⟩,
  ⟨some 12, .pick (.t 8) (.v (.bool true)) (.t 11), none, false⟩])
def s_ref21_Hold_p2 : SCode := (.region false [⟨some 13, .build [(.int .i64 0), (.int .i64 0), (.int .i64 0), (.int .i64 0), (.int .i64 0), (.int .i64 0), (.int .i64 0), (.int .i64 0), (.int .i64 0), .nils, (.int .i64 0)] [], none, false⟩,
  ⟨none, .store 11 [] (.t 2) (.t 13), none, false⟩,
  ⟨some 3, .mv (.v (.int .i64 1)), none, false⟩])
def s_ref21_Hold_p3 : SCode := (.region false [⟨some 14, .load (some 11) (.t 1), none, false⟩,
  ⟨some 4, .alloc true [(.int .i64 0), (.int .i64 0), (.int .i64 0), (.int .i64 0), (.int .i64 0), (.int .i64 0), (.int .i64 0), (.int .i64 0), (.int .i64 0), .nils, (.int .i64 0)], none, false⟩,
  ⟨none, .store 11 [] (.t 4) (.t 14), none, false⟩])
def s_ref21_Hold_p4 : SCode := (.region false [⟨some 15, .bslice [] 0 2 [], none, false⟩,
  ⟨some 16, .faddr 9 (.t 1), none, false⟩,
  ⟨some 17, .load none (.t 16), none, false⟩,
  ⟨some 18, .append 2 16 [(.int .i64 0), (.int .i64 0)] [] (.t 15) (.t 17), none, false⟩,
  ⟨some 19, .faddr 9 (.t 4), none, false⟩,
  ⟨none, .store 1 [] (.t 19) (.t 18), none, false⟩])
def s_ref21_Hold_p5 : SCode := (.region false [⟨some 23, .faddr 10 (.t 4), none, false⟩,
  ⟨some 24, .load none (.t 23), none, false⟩,
  ⟨some 25, .bin .add (.t 24) (.v (.int .i64 1)), none, false⟩,
  ⟨some 26, .faddr 10 (.t 4), none, false⟩,
  ⟨none, .store 1 [] (.t 26) (.t 25), none, false⟩])
def s_ref21_Hold_p6 : SCode := (.seq (.region false [⟨some 20, .faddr 10 (.t 4), none, false⟩,
  ⟨some 21, .load none (.t 20), none, false⟩,
  ⟨some 22, .bin .lss (.t 21) (.v (.int .i64 15)), none, false⟩]) (.cond (.t 22) s_ref21_Hold_p5 .skip))
def s_ref21_Hold_p7 : SCode := (.seq (.kp [2, 4] s_ref21_Hold_p6) (.seq (.region false [⟨some 27, .load (some 11) (.t 4), none, false⟩,
  ⟨none, .store 11 [] (.t 2) (.t 27), none, false⟩,
  ⟨some 3, .mv (.v (.int .i64 0)), none, false⟩]) .ret))
def s_ref21_Hold : SFn := ⟨1, [.cell 2 (some 11), .t 3], (.seq s_ref21_Hold_p0 (.seq (.kp [1, 2] (.seq (.kp [1, 2, 12] s_ref21_Hold_p1) (.cond (.t 12) (.seq s_ref21_Hold_p2 .ret) .skip))) (.seq s_ref21_Hold_p3 (.seq (.kp [2, 4] s_ref21_Hold_p4) s_ref21_Hold_p7))))⟩
def s_unit_Aside_p0 : SCode := (.region false [⟨some 2, .box true 11 (.t 0), none, false⟩,
  ⟨some 3, .box true 2 (.t 1), none, false⟩,
  ⟨some 4, .alloc true [(.int .i64 0), (.int .i64 0), (.int .i64 0), (.int .i64 0), (.int .i64 0), (.int .i64 0), (.int .i64 0), (.int .i64 0), (.int .i64 0), .nils, (.int .i64 0)], none, false⟩,
  ⟨some 5, .mv (.v (.int .i64 0)), none, false⟩])
def s_unit_Aside_p1 : SCode := (.region false [⟨some 6, .load (some 11) (.t 2), none, false⟩,
  ⟨some 7, .call f_unit_goes [(.t 6)], none, false⟩,
  ⟨some 8, .un .not (.t 7), none, false⟩,
  ⟨some 9, .mv (.t 8), none, false⟩,
  ⟨some 10, .faddr 4 (.t 2), (some (9, false)), false⟩,
  ⟨some 11, .load (some 2) (.t 10), (some (9, false)), false⟩,
  ⟨some 12, .load (some 2) (.t 3), (some (9, false)), false⟩,
  ⟨some 13, .call f_cell_Dir [(.t 11), (.t 12)], (some (9, false)), false⟩,
  ⟨some 14, .bin .lss (.t 13) (.v (.int .i64 0)), (some (9, false)), false⟩,
  ⟨some 15, .pick (.t 9) (.v (.bool true)) (.t 14), none, false⟩])
def s_unit_Aside_p2 : SCode := (.region false [⟨some 16, .build [(.int .i64 0), (.int .i64 0), (.int .i64 0), (.int .i64 0), (.int .i64 0), (.int .i64 0), (.int .i64 0), (.int .i64 0), (.int .i64 0), .nils, (.int .i64 0)] [], none, false⟩,
  ⟨none, .store 11 [] (.t 4) (.t 16), none, false⟩,
  ⟨some 5, .mv (.v (.int .i64 1)), none, false⟩])
def s_unit_Aside_p3 : SCode := (.region false [⟨some 19, .load (some 11) (.t 2), none, false⟩,
  ⟨some 20, .faddr 7 (.t 2), none, false⟩,
  ⟨some 21, .load (some 2) (.t 20), none, false⟩,
  ⟨some 22, .call f_unit_Aim [(.t 19), (.t 21)], none, false⟩,
  ⟨none, .store 11 [] (.t 4) (.t 22), none, false⟩,
  ⟨some 5, .mv (.v (.int .i64 0)), none, false⟩])
def s_unit_Aside_p4 : SCode := (.seq (.region false [⟨some 17, .load (some 2) (.t 3), none, false⟩,
  ⟨some 18, .faddr 4 (.t 2), none, false⟩,
  ⟨none, .store 2 [] (.t 18) (.t 17), none, false⟩]) (.seq (.kp [4, 5] s_unit_Aside_p3) .ret))
def s_unit_Aside : SFn := ⟨2, [.cell 4 (some 11), .t 5], (.seq s_unit_Aside_p0 (.seq (.kp [2, 3, 4] (.seq (.kp [2, 3, 4, 15] s_unit_Aside_p1) (.cond (.t 15) (.seq s_unit_Aside_p2 .ret) .skip))) s_unit_Aside_p4))⟩
def s_ref21_Aside_p0 : SCode := (.region false [⟨some 2, .box true 11 (.t 0), none, false⟩,
  ⟨some 3, .box true 2 (.t 1), none, false⟩,
  ⟨some 4, .alloc true [(.int .i64 0), (.int .i64 0), (.int .i64 0), (.int .i64 0), (.int .i64 0), (.int .i64 0), (.int .i64 0), (.int .i64 0), (.int .i64 0), .nils, (.int .i64 0)], none, false⟩,
  ⟨some 5, .mv (.v (.int .i64 0)), none, false⟩])
def s_ref21_Aside_p1 : SCode := (.region false [⟨some 7, .load (some 11) (.t 2), none, false⟩,
  ⟨some 8, .call f_ref21_May [(.t 7)], none, false⟩,
  ⟨some 9, .un .not (.t 8), none, false⟩,
  ⟨some 10, .mv (.t 9), none, false⟩,
  ⟨some 11, .faddr 6 (.t 2), (some (10, false)), false⟩,
  ⟨some 12, .load none (.t 11), (some (10, false)), false⟩,
  ⟨some 13, .bin .neq (.t 12) (.v (.int .i64 1)), (some (10, false)), false⟩,
  ⟨some 14, .pick (.t 10) (.v (.bool true)) (.t 13), none, false⟩,
  ⟨some 15, .mv (.t 14), none, false⟩,
  ⟨some 16, .faddr 4 (.t 2), (some (15, false)), false⟩,
  ⟨some 17, .load (some 2) (.t 16), (some (15, false)), false⟩,
  ⟨some 18, .load (some 2) (.t 3), (some (15, false)), false⟩,
  ⟨some 19, .call f_ref03_Dir [(.t 17), (.t 18)], (some (15, false)), false⟩,
  ⟨some 20, .bin .lss (.t 19) (.v (.int .i64 0)), (some (15, false)), false⟩,
  ⟨some 21, .pick (.t 15) (.v (.bool true)) (.t 20), none, false⟩])
def s_ref21_Aside_p2 : SCode := (.region false [⟨some 22, .build [(.int .i64 0), (.int .i64 0), (.int .i64 0), (.int .i64 0), (.int .i64 0), (.int .i64 0), (.int .i64 0), (.int .i64 0), (.int .i64 0), .nils, (.int .i64 0)] [], none, false⟩,
  ⟨none, .store 11 [] (.t 4) (.t 22), none, false⟩,
  ⟨some 5, .mv (.v (.int .i64 1)), none, false⟩])
def s_ref21_Aside_p3 : SCode := (.region false [⟨some 23, .load (some 11) (.t 2), none, false⟩,
  ⟨some 6, .alloc true [(.int .i64 0), (.int .i64 0), (.int .i64 0), (.int .i64 0), (.int .i64 0), (.int .i64 0), (.int .i64 0), (.int .i64 0), (.int .i64 0), .nils, (.int .i64 0)], none, false⟩,
  ⟨none, .store 11 [] (.t 6) (.t 23), none, false⟩])
def s_ref21_Aside_p4 : SCode := (.region false [⟨some 26, .load (some 11) (.t 6), none, false⟩,
  ⟨some 27, .faddr 7 (.t 2), none, false⟩,
  ⟨some 28, .load (some 2) (.t 27), none, false⟩,
  ⟨some 29, .call f_ref21_Aim [(.t 26), (.t 28)], none, false⟩,
  ⟨none, .store 11 [] (.t 4) (.t 29), none, false⟩,
  ⟨some 5, .mv (.v (.int .i64 0)), none, false⟩])
def s_ref21_Aside_p5 : SCode := (.seq (.region false [⟨some 24, .load (some 2) (.t 3), none, false⟩,
  ⟨some 25, .faddr 4 (.t 6), none, false⟩,
  ⟨none, .store 2 [] (.t 25) (.t 24), none, false⟩]) (.seq (.kp [4, 5] s_ref21_Aside_p4) .ret))
def s_ref21_Aside : SFn := ⟨2, [.cell 4 (some 11), .t 5], (.seq s_ref21_Aside_p0 (.seq (.kp [2, 3, 4] (.seq (.kp [2, 3, 4, 21] s_ref21_Aside_p1) (.cond (.t 21) (.seq s_ref21_Aside_p2 .ret) .skip))) (.seq s_ref21_Aside_p3 s_ref21_Aside_p5)))⟩
def s_unit_Lose_p0 : SCode := (.region false [⟨some 1, .box true 11 (.t 0), none, false⟩,
  ⟨some 2, .alloc true [(.int .i64 0), (.int .i64 0), (.int .i64 0), (.int .i64 0), (.int .i64 0), (.int .i64 0), (.int .i64 0), (.int .i64 0), (.int .i64 0), .nils, (.int .i64 0)], none, false⟩,
  ⟨some 3, .mv (.v (.int .i64 0)), none, false⟩])
def s_unit_Lose_p1 : SCode := (.region false [⟨some 7, .build [(.int .i64 0), (.int .i64 0), (.int .i64 0), (.int .i64 0), (.int .i64 0), (.int .i64 0), (.int .i64 0), (.int .i64 0), (.int .i64 0), .nils, (.int .i64 0)] [], none, false⟩,
  ⟨none, .store 11 [] (.t 2) (.t 7), none, false⟩,
  ⟨some 3, .mv (.v (.int .i64 1)), none, false⟩])
def s_unit_Lose_p2 : SCode := (.seq (.region false [⟨some 4, .load (some 11) (.t 1), none, false⟩,
  ⟨some 5, .call f_unit_goes [(.t 4)], none, false⟩,
  ⟨some 6, .un .not (.t 5), none, false⟩]) (.cond (.t 6) (.seq s_unit_Lose_p1 .ret) .skip))
def s_unit_Lose_p3 : SCode := (.region false [⟨some 8, .load (some 11) (.t 1), none, false⟩,
  ⟨some 9, .faddr 7 (.t 1), none, false⟩,
  ⟨some 10, .load (some 2) (.t 9), none, false⟩,
  ⟨some 11, .call f_unit_Aim [(.t 8), (.t 10)], none, false⟩,
  ⟨none, .store 11 [] (.t 2) (.t 11), none, false⟩,
  ⟨some 3, .mv (.v (.int .i64 0)), none, false⟩])
def s_unit_Lose : SFn := ⟨1, [.cell 2 (some 11), .t 3], (.seq s_unit_Lose_p0 (.seq (.kp [1, 2] s_unit_Lose_p2) (.seq (.kp [2, 3] s_unit_Lose_p3) .ret)))⟩
def s_ref21_Lose_p0 : SCode := (.region false [⟨some 1, .box true 11 (.t 0), none, false⟩,
  ⟨some 2, .alloc true [(.int .i64 0), (.int .i64 0), (.int .i64 0), (.int .i64 0), (.int .i64 0), (.int .i64 0), (.int .i64 0), (.int .i64 0), (.int .i64 0), .nils, (.int .i64 0)], none, false⟩,
  ⟨some 3, .mv (.v (.int .i64 0)), none, false⟩])
def s_ref21_Lose_p1 : SCode := (.region false [⟨some 4, .load (some 11) (.t 1), none, false⟩,
  ⟨some 5, .call f_ref21_May [(.t 4)], none, false⟩,
  ⟨some 6, .un .not (.t 5), none, false⟩,
  ⟨some 7, .mv (.t 6), none, false⟩,
  ⟨some 8, .faddr 6 (.t 1), (some (7, false)), false⟩,
  ⟨some 9, .load none (.t 8), (some (7, false)), false⟩,
  ⟨some 10, .bin .neq (.t 9) (.v (.int .i64 1)), (some (7, false)), false⟩,
  ⟨some 11, .pick (.t 7) (.v (.bool true)) (.t 10), none, false⟩])
def s_ref21_Lose_p2 : SCode := (.region false [⟨some 12, .build [(.int .i64 0), (.int .i64 0), (.int .i64 0), (.int .i64 0), (.int .i64 0), (.int .i64 0), (.int .i64 0), (.int .i64 0), (.int .i64 0), .nils, (.int .i64 0)] [], none, false⟩,
  ⟨none, .store 11 [] (.t 2) (.t 12), none, false⟩,
  ⟨some 3, .mv (.v (.int .i64 1)), none, false⟩])
def s_ref21_Lose_p3 : SCode := (.region false [⟨some 13, .load (some 11) (.t 1), none, false⟩,
  ⟨some 14, .faddr 7 (.t 1), none, false⟩,
  ⟨some 15, .load (some 2) (.t 14), none, false⟩,
  ⟨some 16, .call f_ref21_Aim [(.t 13), (.t 15)], none, false⟩,
  ⟨none, .store 11 [] (.t 2) (.t 16), none, false⟩,
  ⟨some 3, .mv (.v (.int .i64 0)), none, false⟩])
def s_ref21_Lose : SFn := ⟨1, [.cell 2 (some 11), .t 3], (.seq s_ref21_Lose_p0 (.seq (.kp [1, 2] (.seq (.kp [1, 2, 11] s_ref21_Lose_p1) (.cond (.t 11) (.seq s_ref21_Lose_p2 .ret) .skip))) (.seq (.kp [2, 3] s_ref21_Lose_p3) .ret)))⟩
def s_law21_UnitTurns_p0 : SCode := (.region false [⟨some 14, .load (some 11) (.t 2), none, false⟩,
  ⟨some 15, .call f_unit_Step [(.t 14)], none, false⟩,
  ⟨some 13, .mv (.t 15), none, false⟩,
  ⟨some 16, .ext (.t 13) 0, none, false⟩,
  ⟨some 17, .ext (.t 13) 1, none, false⟩,
  ⟨some 5, .alloc true [(.int .i64 0), (.int .i64 0), (.int .i64 0), (.int .i64 0), (.int .i64 0), (.int .i64 0), (.int .i64 0), (.int .i64 0), (.int .i64 0), .nils, (.int .i64 0)], none, false⟩,
  ⟨none, .store 11 [] (.t 5) (.t 16), none, false⟩,
  ⟨some 6, .mv (.t 17), none, false⟩])
def s_law21_UnitTurns_p1 : SCode := (.region false [⟨some 19, .load (some 11) (.t 2), none, false⟩,
  ⟨some 20, .call f_ref21_Step [(.t 19)], none, false⟩,
  ⟨some 18, .mv (.t 20), none, false⟩,
  ⟨some 21, .ext (.t 18) 0, none, false⟩,
  ⟨some 22, .ext (.t 18) 1, none, false⟩,
  ⟨some 7, .alloc true [(.int .i64 0), (.int .i64 0), (.int .i64 0), (.int .i64 0), (.int .i64 0), (.int .i64 0), (.int .i64 0), (.int .i64 0), (.int .i64 0), .nils, (.int .i64 0)], none, false⟩,
  ⟨none, .store 11 [] (.t 7) (.t 21), none, false⟩,
  ⟨some 8, .mv (.t 22), none, false⟩])
def s_law21_UnitTurns_p2 : SCode := (.region false [⟨some 24, .load (some 11) (.t 2), none, false⟩,
  ⟨some 25, .call f_unit_Hold [(.t 24)], none, false⟩,
  ⟨some 23, .mv (.t 25), none, false⟩,
  ⟨some 26, .ext (.t 23) 0, none, false⟩,
  ⟨some 27, .ext (.t 23) 1, none, false⟩,
  ⟨some 9, .alloc true [(.int .i64 0), (.int .i64 0), (.int .i64 0), (.int .i64 0), (.int .i64 0), (.int .i64 0), (.int .i64 0), (.int .i64 0), (.int .i64 0), .nils, (.int .i64 0)], none, false⟩,
  ⟨none, .store 11 [] (.t 9) (.t 26), none, false⟩,
  ⟨some 10, .mv (.t 27), none, false⟩])
def s_law21_UnitTurns_p3 : SCode := (.region false [⟨some 29, .load (some 11) (.t 2), none, false⟩,
  ⟨some 30, .call f_ref21_Hold [(.t 29)], none, false⟩,
  ⟨some 28, .mv (.t 30), none, false⟩,
  ⟨some 31, .ext (.t 28) 0, none, false⟩,
  ⟨some 32, .ext (.t 28) 1, none, false⟩,
  ⟨some 11, .alloc true [(.int .i64 0), (.int .i64 0), (.int .i64 0), (.int .i64 0), (.int .i64 0), (.int .i64 0), (.int .i64 0), (.int .i64 0), (.int .i64 0), .nils, (.int .i64 0)], none, false⟩,
  ⟨none, .store 11 [] (.t 11) (.t 31), none, false⟩,
  ⟨some 12, .mv (.t 32), none, false⟩])
def s_law21_UnitTurns_p4 : SCode := (.region false [⟨some 33, .load (some 11) (.t 5), none, false⟩,
  ⟨some 34, .mv (.t 6), none, false⟩,
  ⟨some 35, .load (some 11) (.t 7), none, false⟩,
  ⟨some 36, .mv (.t 8), none, false⟩,
  ⟨some 37, .call f_law21_same [(.t 33), (.t 34), (.t 35), (.t 36)], none, false⟩,
  ⟨some 38, .un .not (.t 37), none, false⟩,
  ⟨some 39, .mv (.t 38), none, false⟩,
  ⟨some 40, .load (some 11) (.t 9), (some (39, false)), false⟩,
  ⟨some 41, .mv (.t 10), (some (39, false)), false⟩,
  ⟨some 42, .load (some 11) (.t 11), (some (39, false)), false⟩,
  ⟨some 43, .mv (.t 12), (some (39, false)), false⟩,
  ⟨some 44, .call f_law21_same [(.t 40), (.t 41), (.t 42), (.t 43)], (some (39, false)), false⟩,
  ⟨some 45, .un .not (.t 44), (some (39, false)), false⟩,
  ⟨some 46, .pick (.t 39) (.v (.bool true)) (.t 45), none, false⟩])
def s_law21_UnitTurns_p5 : SCode := (.region false [⟨some 48, .load (some 11) (.t 2), none, false⟩,
  ⟨some 49, .load (some 2) (.t 3), none, false⟩,
  ⟨some 50, .call f_unit_Aside [(.t 48), (.t 49)], none, false⟩,
  ⟨some 47, .mv (.t 50), none, false⟩,
  ⟨some 51, .ext (.t 47) 0, none, false⟩,
  ⟨some 52, .ext (.t 47) 1, none, false⟩,
  ⟨none, .store 11 [] (.t 5) (.t 51), none, false⟩,
  ⟨some 6, .mv (.t 52), none, false⟩])
def s_law21_UnitTurns_p6 : SCode := (.region false [⟨some 54, .load (some 11) (.t 2), none, false⟩,
  ⟨some 55, .load (some 2) (.t 3), none, false⟩,
  ⟨some 56, .call f_ref21_Aside [(.t 54), (.t 55)], none, false⟩,
  ⟨some 53, .mv (.t 56), none, false⟩,
  ⟨some 57, .ext (.t 53) 0, none, false⟩,
  ⟨some 58, .ext (.t 53) 1, none, false⟩,
  ⟨none, .store 11 [] (.t 7) (.t 57), none, false⟩,
  ⟨some 8, .mv (.t 58), none, false⟩])
def s_law21_UnitTurns_p7 : SCode := (.region false [⟨some 60, .load (some 11) (.t 2), none, false⟩,
  ⟨some 61, .call f_unit_Lose [(.t 60)], none, false⟩,
  ⟨some 59, .mv (.t 61), none, false⟩,
  ⟨some 62, .ext (.t 59) 0, none, false⟩,
  ⟨some 63, .ext (.t 59) 1, none, false⟩,
  ⟨none, .store 11 [] (.t 9) (.t 62), none, false⟩,
  ⟨some 10, .mv (.t 63), none, false⟩])
def s_law21_UnitTurns_p8 : SCode := (.region false [⟨some 65, .load (some 11) (.t 2), none, false⟩,
  ⟨some 66, .call f_ref21_Lose [(.t 65)], none, false⟩,
  ⟨some 64, .mv (.t 66), none, false⟩,
  ⟨some 67, .ext (.t 64) 0, none, false⟩,
  ⟨some 68, .ext (.t 64) 1, none, false⟩,
  ⟨none, .store 11 [] (.t 11) (.t 67), none, false⟩,
  ⟨some 12, .mv (.t 68), none, false⟩])
def s_law21_UnitTurns_p9 : SCode := (.region false [⟨some 69, .load (some 11) (.t 5), none, false⟩,
  ⟨some 70, .mv (.t 6), none, false⟩,
  ⟨some 71, .load (some 11) (.t 7), none, false⟩,
  ⟨some 72, .mv (.t 8), none, false⟩,
  ⟨some 73, .call f_law21_same [(.t 69), (.t 70), (.t 71), (.t 72)], none, false⟩,
  ⟨some 74, .mv (.t 73), none, false⟩,
  ⟨some 75, .load (some 11) (.t 9), (some (74, true)), false⟩,
  ⟨some 76, .mv (.t 10), (some (74, true)), false⟩,
  ⟨some 77, .load (some 11) (.t 11), (some (74, true)), false⟩,
  ⟨some 78, .mv (.t 12), (some (74, true)), false⟩,
  ⟨some 79, .call f_law21_same [(.t 75), (.t 76), (.t 77), (.t 78)], (some (74, true)), false⟩,
  ⟨some 80, .pick (.t 74) (.t 79) (.v (.bool false)), none, false⟩,
  ⟨some 81, .mv (.t 80), none, false⟩,
  ⟨some 82, .call f_law21_awake [], (some (81, true)), false⟩,
  ⟨some 83, .pick (.t 81) (.t 82) (.v (.bool false)), none, false⟩,
  ⟨some 4, .mv (.t 83), none, false⟩])
def s_law21_UnitTurns_p10 : SCode := (.seq (.kp [2, 3, 5, 6, 7, 9, 11] s_law21_UnitTurns_p5) (.seq (.kp [2, 5, 6, 7, 8, 9, 11] s_law21_UnitTurns_p6) (.seq (.kp [2, 5, 6, 7, 8, 9, 10, 11] s_law21_UnitTurns_p7) (.seq (.kp [5, 6, 7, 8, 9, 10, 11, 12] s_law21_UnitTurns_p8) (.seq (.kp [4] s_law21_UnitTurns_p9) .ret)))))
def s_law21_UnitTurns_p11 : SCode := (.seq (.kp [2, 3, 5, 7, 9, 11] (.seq (.kp [2, 3, 5, 7, 9, 11, 46] s_law21_UnitTurns_p4) (.cond (.t 46) (.seq (.region false [⟨some 4, .mv (.v (.bool false)), none, false⟩]) .ret) .skip))) s_law21_UnitTurns_p10)
def s_law21_UnitTurns_p12 : SCode := (.seq (.region false [⟨some 2, .box true 11 (.t 0), none, false⟩,
  ⟨some 3, .box true 2 (.t 1), none, false⟩,
  ⟨some 4, .mv (.v (.bool false)), none, false⟩]) (.seq (.kp [2, 3, 5, 6] s_law21_UnitTurns_p0) (.seq (.kp [2, 3, 5, 6, 7, 8] s_law21_UnitTurns_p1) (.seq (.kp [2, 3, 5, 6, 7, 8, 9, 10] s_law21_UnitTurns_p2) (.seq (.kp [2, 3, 5, 6, 7, 8, 9, 10, 11, 12] s_law21_UnitTurns_p3) s_law21_UnitTurns_p11)))))
def s_law21_UnitTurns : SFn := ⟨2, [.t 4], s_law21_UnitTurns_p12⟩
def s_law21_UnitKeeps_p0 : SCode := (.region false [⟨some 15, .load (some 11) (.t 3), none, false⟩,
  ⟨some 16, .call f_unit_Check [(.t 15)], none, false⟩,
  ⟨some 17, .bin .neq (.t 16) (.v (.int .i64 0)), none, false⟩,
  ⟨some 18, .mv (.t 17), none, false⟩,
  ⟨some 19, .call f_law21_awake [], (some (18, true)), false⟩,
  ⟨some 20, .pick (.t 18) (.t 19) (.v (.bool false)), none, false⟩,
  ⟨some 6, .mv (.t 20), none, false⟩])
def s_law21_UnitKeeps_p1 : SCode := (.seq (.region false [⟨some 12, .load (some 11) (.t 3), none, false⟩,
  ⟨some 13, .call f_ref21_May [(.t 12)], none, false⟩,
  ⟨some 14, .un .not (.t 13), none, false⟩]) (.cond (.t 14) (.seq (.kp [6] s_law21_UnitKeeps_p0) .ret) .skip))
def s_law21_UnitKeeps_p2 : SCode := (.region false [⟨some 21, .load (some 11) (.t 3), none, false⟩,
  ⟨some 22, .call f_unit_Stop [(.t 21)], none, false⟩,
  ⟨some 23, .bslice [(.int .i64 0), (.int .i64 0), (.int .i64 0), (.int .i64 0), (.int .i64 0), (.int .i64 0), (.int .i64 0), (.int .i64 0), (.int .i64 0), .nils, (.int .i64 0)] 1 11 [(0, 11, (.t 22))], none, false⟩,
  ⟨some 7, .mv (.t 23), none, false⟩])
def s_law21_UnitKeeps_p3 : SCode := (.region false [⟨some 24, .faddr 0 (.t 4), none, false⟩,
  ⟨some 25, .load none (.t 24), none, false⟩,
  ⟨some 26, .bin .geq (.t 25) (.v (.int .i64 0)), none, false⟩,
  ⟨some 27, .mv (.t 26), none, false⟩,
  ⟨some 28, .faddr 0 (.t 4), (some (27, true)), false⟩,
  ⟨some 29, .load none (.t 28), (some (27, true)), false⟩,
  ⟨some 30, .bin .lss (.t 29) (.v (.int .i64 128)), (some (27, true)), false⟩,
  ⟨some 31, .pick (.t 27) (.t 30) (.v (.bool false)), none, false⟩,
  ⟨some 32, .mv (.t 31), none, false⟩,
  ⟨some 33, .faddr 1 (.t 4), (some (32, true)), false⟩,
  ⟨some 34, .load none (.t 33), (some (32, true)), false⟩,
  ⟨some 35, .bin .geq (.t 34) (.v (.int .i64 0)), (some (32, true)), false⟩,
  ⟨some 36, .pick (.t 32) (.t 35) (.v (.bool false)), none, false⟩,
  ⟨some 37, .mv (.t 36), none, false⟩,
  ⟨some 38, .faddr 1 (.t 4), (some (37, true)), false⟩,
  ⟨some 39, .load none (.t 38), (some (37, true)), false⟩,
  ⟨some 40, .bin .lss (.t 39) (.v (.int .i64 128)), (some (37, true)), false⟩,
  ⟨some 41, .pick (.t 37) (.t 40) (.v (.bool false)), none, false⟩])
def s_law21_UnitKeeps_p4 : SCode := (.region false [⟨some 42, .mv (.t 7), none, false⟩,
  ⟨some 43, .load (some 11) (.t 3), none, false⟩,
  ⟨some 44, .load (some 2) (.t 4), none, false⟩,
  ⟨some 45, .call f_unit_Aim [(.t 43), (.t 44)], none, false⟩,
  ⟨some 46, .bslice [(.int .i64 0), (.int .i64 0), (.int .i64 0), (.int .i64 0), (.int .i64 0), (.int .i64 0), (.int .i64 0), (.int .i64 0), (.int .i64 0), .nils, (.int .i64 0)] 1 11 [(0, 11, (.t 45))], none, false⟩,
  ⟨some 47, .append 11 104 [(.int .i64 0), (.int .i64 0), (.int .i64 0), (.int .i64 0), (.int .i64 0), (.int .i64 0), (.int .i64 0), (.int .i64 0), (.int .i64 0), .nils, (.int .i64 0)] [] (.t 42) (.t 46), none, false⟩,
  ⟨some 7, .mv (.t 47), none, false⟩])
def s_law21_UnitKeeps_p5 : SCode := (.region false [⟨some 52, .load (some 11) (.t 3), none, false⟩,
  ⟨some 9, .alloc true [(.int .i64 0), (.int .i64 0), (.int .i64 0), (.int .i64 0), (.int .i64 0), (.int .i64 0), (.int .i64 0), (.int .i64 0), (.int .i64 0), .nils, (.int .i64 0)], none, false⟩,
  ⟨none, .store 11 [] (.t 9) (.t 52), none, false⟩,
  ⟨some 10, .mv (.v (.int .i64 0)), none, false⟩])
def s_law21_UnitKeeps_p6 : SCode := (.region false [⟨some 85, .load (some 11) (.t 3), none, false⟩,
  ⟨some 86, .call f_unit_Step [(.t 85)], none, false⟩,
  ⟨some 84, .mv (.t 86), none, false⟩,
  ⟨some 87, .ext (.t 84) 0, none, false⟩,
  ⟨some 88, .ext (.t 84) 1, none, false⟩,
  ⟨none, .store 11 [] (.t 9) (.t 87), none, false⟩,
  ⟨some 10, .mv (.t 88), none, false⟩])
def s_law21_UnitKeeps_p7 : SCode := (.region false [⟨some 92, .load (some 11) (.t 3), none, false⟩,
  ⟨some 93, .call f_unit_Hold [(.t 92)], none, false⟩,
  ⟨some 91, .mv (.t 93), none, false⟩,
  ⟨some 94, .ext (.t 91) 0, none, false⟩,
  ⟨some 95, .ext (.t 91) 1, none, false⟩,
  ⟨none, .store 11 [] (.t 9) (.t 94), none, false⟩,
  ⟨some 10, .mv (.t 95), none, false⟩])
def s_law21_UnitKeeps_p8 : SCode := (.region false [⟨some 99, .load (some 11) (.t 3), none, false⟩,
  ⟨some 100, .call f_unit_Lose [(.t 99)], none, false⟩,
  ⟨some 98, .mv (.t 100), none, false⟩,
  ⟨some 101, .ext (.t 98) 0, none, false⟩,
  ⟨some 102, .ext (.t 98) 1, none, false⟩,
  ⟨none, .store 11 [] (.t 9) (.t 101), none, false⟩,
  ⟨some 10, .mv (.t 102), none, false⟩])
def s_law21_UnitKeeps_p9 : SCode := (.region false [⟨some 106, .load (some 11) (.t 3), none, false⟩,
  ⟨some 107, .mv (.t 2), none, false⟩,
  ⟨some 108, .call f_unit_Give [(.t 106), (.t 107)], none, false⟩,
  ⟨some 105, .mv (.t 108), none, false⟩,
  ⟨some 109, .ext (.t 105) 0, none, false⟩,
  ⟨some 110, .ext (.t 105) 1, none, false⟩,
  ⟨none, .store 11 [] (.t 9) (.t 109), none, false⟩,
  ⟨some 10, .mv (.t 110), none, false⟩])
def s_law21_UnitKeeps_p10 : SCode := (.region false [⟨some 55, .load (some 11) (.t 3), none, false⟩,
  ⟨some 56, .load (some 2) (.t 4), none, false⟩,
  ⟨some 57, .call f_unit_Aside [(.t 55), (.t 56)], none, false⟩,
  ⟨some 54, .mv (.t 57), none, false⟩,
  ⟨some 58, .ext (.t 54) 0, none, false⟩,
  ⟨some 59, .ext (.t 54) 1, none, false⟩,
  ⟨none, .store 11 [] (.t 9) (.t 58), none, false⟩,
  ⟨some 10, .mv (.t 59), none, false⟩])
def s_law21_UnitKeeps_p11 : SCode := (.region false [⟨some 60, .mv (.t 10), none, false⟩,
  ⟨some 61, .bin .eql (.t 60) (.v (.int .i64 0)), none, false⟩,
  ⟨some 62, .mv (.t 61), none, false⟩,
  ⟨some 63, .faddr 0 (.t 4), (some (62, true)), false⟩,
  ⟨some 64, .load none (.t 63), (some (62, true)), false⟩,
  ⟨some 65, .bin .lss (.t 64) (.v (.int .i64 0)), (some (62, true)), false⟩,
  ⟨some 66, .mv (.t 65), (some (62, true)), false⟩,
  ⟨some 67, .faddr 0 (.t 4), (some (66, false)), false⟩,
  ⟨some 68, .load none (.t 67), (some (66, false)), false⟩,
  ⟨some 69, .bin .geq (.t 68) (.v (.int .i64 128)), (some (66, false)), false⟩,
  ⟨some 70, .pick (.t 66) (.v (.bool true)) (.t 69), (some (62, true)), false⟩,
  ⟨some 71, .mv (.t 70), (some (62, true)), false⟩,
  ⟨some 72, .faddr 1 (.t 4), (some (71, false)), false⟩,
  ⟨some 73, .load none (.t 72), (some (71, false)), false⟩,
  ⟨some 74, .bin .lss (.t 73) (.v (.int .i64 0)), (some (71, false)), false⟩,
  ⟨some 75, .pick (.t 71) (.v (.bool true)) (.t 74), (some (62, true)), false⟩,
  ⟨some 76, .mv (.t 75), (some (62, true)), false⟩,
  ⟨some 77, .faddr 1 (.t 4), (some (76, false)), false⟩,
  ⟨some 78, .load none (.t 77), (some (76, false)), false⟩,
  ⟨some 79, .bin .geq (.t 78) (.v (.int .i64 128)), (some (76, false)), false⟩,
  ⟨some 80, .pick (.t 76) (.v (.bool true)) (.t 79), (some (62, true)), false⟩,
  ⟨some 81, .pick (.t 62) (.t 80) (.v (.bool false)), none, false⟩])
def s_law21_UnitKeeps_p12 : SCode := (.seq (.region false [⟨some 104, .bin .eql (.t 53) (.v (.int .i64 3)), none, false⟩,
  ⟨some 103, .mv (.t 104), none, false⟩]) (.cond (.t 103) s_law21_UnitKeeps_p9 (.seq (.kp [2, 3, 4, 7, 8, 9, 10] s_law21_UnitKeeps_p10) (.seq (.kp [2, 3, 4, 7, 8, 9, 10, 81] s_law21_UnitKeeps_p11) (.cond (.t 81) (.exit 1) .skip)))))
def s_law21_UnitKeeps_p13 : SCode := (.seq (.region false [⟨some 90, .bin .eql (.t 53) (.v (.int .i64 1)), none, false⟩,
  ⟨some 89, .mv (.t 90), none, false⟩]) (.cond (.t 89) s_law21_UnitKeeps_p7 (.seq (.region false [⟨some 97, .bin .eql (.t 53) (.v (.int .i64 2)), none, false⟩,
  ⟨some 96, .mv (.t 97), none, false⟩]) (.cond (.t 96) s_law21_UnitKeeps_p8 s_law21_UnitKeeps_p12))))
def s_law21_UnitKeeps_p14 : SCode := (.seq (.region false [⟨some 53, .mv (.t 8), none, false⟩]) (.block 2 (.seq (.region false [⟨some 83, .bin .eql (.t 53) (.v (.int .i64 0)), none, false⟩,
  ⟨some 82, .mv (.t 83), none, false⟩]) (.cond (.t 82) s_law21_UnitKeeps_p6 s_law21_UnitKeeps_p13))))
def s_law21_UnitKeeps_p15 : SCode := (.region false [⟨some 113, .mv (.t 7), none, false⟩,
  ⟨some 114, .load (some 11) (.t 9), none, false⟩,
  ⟨some 115, .bslice [(.int .i64 0), (.int .i64 0), (.int .i64 0), (.int .i64 0), (.int .i64 0), (.int .i64 0), (.int .i64 0), (.int .i64 0), (.int .i64 0), .nils, (.int .i64 0)] 1 11 [(0, 11, (.t 114))], none, false⟩,
  ⟨some 116, .append 11 104 [(.int .i64 0), (.int .i64 0), (.int .i64 0), (.int .i64 0), (.int .i64 0), (.int .i64 0), (.int .i64 0), (.int .i64 0), (.int .i64 0), .nils, (.int .i64 0)] [] (.t 113) (.t 115), none, false⟩,
  ⟨some 7, .mv (.t 116), none, false⟩])
def s_law21_UnitKeeps_p16 : SCode := (.seq (.kp [2, 3, 4, 7, 8, 9, 10] s_law21_UnitKeeps_p14) (.seq (.region false [⟨some 111, .mv (.t 10), none, false⟩,
  ⟨some 112, .bin .eql (.t 111) (.v (.int .i64 0)), none, false⟩]) (.cond (.t 112) s_law21_UnitKeeps_p15 .skip)))
def s_law21_UnitKeeps_p17 : SCode := (.seq (.kp [2, 3, 4, 7, 8] (.block 1 (.seq s_law21_UnitKeeps_p5 s_law21_UnitKeeps_p16))) (.region false [⟨some 50, .mv (.t 8), none, false⟩,
  ⟨some 51, .bin .add (.t 50) (.v (.int .i64 1)), none, false⟩,
  ⟨some 8, .mv (.t 51), none, false⟩]))
def s_law21_UnitKeeps_p18 : SCode := (.seq (.kp [2, 3, 4, 7, 8] (.seq (.region false [⟨some 48, .mv (.t 8), none, false⟩,
  ⟨some 49, .bin .lss (.t 48) (.v (.int .i64 5)), none, false⟩]) (.cond (.t 49) .skip (.exit 0)))) s_law21_UnitKeeps_p17)
def s_law21_UnitKeeps_p19 : SCode := (.region false [⟨some 117, .mv (.t 11), none, false⟩,
  ⟨some 118, .mv (.t 7), none, false⟩,
  ⟨some 119, .len (.t 118), none, false⟩,
  ⟨some 120, .bin .lss (.t 117) (.t 119), none, false⟩])
def s_law21_UnitKeeps_p20 : SCode := (.region true [⟨some 123, .mv (.t 7), none, false⟩,
  ⟨some 124, .mv (.t 11), none, false⟩,
  ⟨some 125, .iaddr 11 (.t 123) (.t 124), none, false⟩,
  ⟨some 126, .load (some 11) (.t 125), none, false⟩,
  ⟨some 127, .call f_ref21_May [(.t 126)], none, false⟩,
  ⟨some 128, .un .not (.t 127), none, false⟩,
  ⟨some 129, .mv (.t 128), none, false⟩,
  ⟨some 130, .mv (.t 7), (some (129, false)), true⟩,
  ⟨some 131, .mv (.t 11), (some (129, false)), true⟩,
  ⟨some 132, .iaddr 11 (.t 130) (.t 131), (some (129, false)), true⟩,
  ⟨some 133, .faddr 0 (.t 132), (some (129, false)), true⟩,
  ⟨some 134, .load none (.t 133), (some (129, false)), true⟩,
  ⟨some 135, .faddr 0 (.t 3), (some (129, false)), true⟩,
  ⟨some 136, .load none (.t 135), (some (129, false)), true⟩,
  ⟨some 137, .bin .neq (.t 134) (.t 136), (some (129, false)), false⟩,
  ⟨some 138, .pick (.t 129) (.v (.bool true)) (.t 137), none, false⟩,
  ⟨some 139, .mv (.t 138), none, false⟩,
  ⟨some 140, .mv (.t 7), (some (139, false)), true⟩,
  ⟨some 141, .mv (.t 11), (some (139, false)), true⟩,
  ⟨some 142, .iaddr 11 (.t 140) (.t 141), (some (139, false)), true⟩,
  ⟨some 143, .faddr 1 (.t 142), (some (139, false)), true⟩,
  ⟨some 144, .load none (.t 143), (some (139, false)), true⟩,
  ⟨some 145, .faddr 1 (.t 3), (some (139, false)), true⟩,
  ⟨some 146, .load none (.t 145), (some (139, false)), true⟩,
  ⟨some 147, .bin .neq (.t 144) (.t 146), (some (139, false)), false⟩,
  ⟨some 148, .pick (.t 139) (.v (.bool true)) (.t 147), none, false⟩,
  ⟨some 149, .mv (.t 148), none, false⟩,
  ⟨some 150, .mv (.t 7), (some (149, false)), true⟩,
  ⟨some 151, .mv (.t 11), (some (149, false)), true⟩,
  ⟨some 152, .iaddr 11 (.t 150) (.t 151), (some (149, false)), true⟩,
  ⟨some 153, .faddr 2 (.t 152), (some (149, false)), true⟩,
  ⟨some 154, .load (some 2) (.t 153), (some (149, false)), true⟩,
  ⟨some 155, .faddr 2 (.t 3), (some (149, false)), true⟩,
  ⟨some 156, .load (some 2) (.t 155), (some (149, false)), true⟩,
  ⟨some 157, .eq true true [.int, .int] (.t 154) (.t 156), (some (149, false)), false⟩,
  ⟨some 158, .pick (.t 149) (.v (.bool true)) (.t 157), none, false⟩])
def s_law21_UnitKeeps_p21 : SCode := (.seq (.kp [3, 7, 11] (.block 4 (.seq (.kp [3, 7, 11, 158] s_law21_UnitKeeps_p20) (.cond (.t 158) (.seq (.region false [⟨some 6, .mv (.v (.bool false)), none, false⟩]) .ret) .skip)))) (.region false [⟨some 121, .mv (.t 11), none, false⟩,
  ⟨some 122, .bin .add (.t 121) (.v (.int .i64 1)), none, false⟩,
  ⟨some 11, .mv (.t 122), none, false⟩]))
def s_law21_UnitKeeps_p22 : SCode := (.seq (.kp [3, 7, 11] (.seq s_law21_UnitKeeps_p19 (.cond (.t 120) .skip (.exit 3)))) s_law21_UnitKeeps_p21)
def s_law21_UnitKeeps_p23 : SCode := (.seq (.kp [] (.seq (.kp [3, 7, 11] (.region false [⟨some 11, .mv (.v (.int .i64 0)), none, false⟩])) (.block 3 (.loop (some [3, 7, 11]) s_law21_UnitKeeps_p22)))) (.seq (.region false [⟨some 159, .call f_law21_awake [], none, false⟩,
  ⟨some 6, .mv (.t 159), none, false⟩]) .ret))
def s_law21_UnitKeeps_p24 : SCode := (.seq (.kp [2, 3, 4, 7] (.seq (.kp [2, 3, 4, 7, 41] s_law21_UnitKeeps_p3) (.cond (.t 41) s_law21_UnitKeeps_p4 .skip))) (.seq (.kp [3, 7] (.seq (.kp [2, 3, 4, 7, 8] (.region false [⟨some 8, .mv (.v (.int .i64 0)), none, false⟩])) (.block 0 (.loop (some [2, 3, 4, 7, 8]) s_law21_UnitKeeps_p18)))) s_law21_UnitKeeps_p23))
def s_law21_UnitKeeps_p25 : SCode := (.seq (.region false [⟨some 3, .box true 11 (.t 0), none, false⟩,
  ⟨some 4, .box true 2 (.t 1), none, false⟩,
  ⟨some 6, .mv (.v (.bool false)), none, false⟩]) (.seq (.kp [2, 3, 4] s_law21_UnitKeeps_p1) (.seq s_law21_UnitKeeps_p2 s_law21_UnitKeeps_p24)))
def s_law21_UnitKeeps : SFn := ⟨3, [.t 6], s_law21_UnitKeeps_p25⟩
def tb : Tbl := fun f => match f with
  | 3 => some s_law21_UnitAims
  | 4 => some s_law21_UnitGives
  | 5 => some s_law21_UnitWalks
  | 6 => some s_law21_UnitChecks
  | 7 => some s_law21_UnitTurns
  | 8 => some s_law21_UnitKeeps
  | 9 => some s_ref21_Same
  | 10 => some s_unit_Stop
  | 11 => some s_ref21_Stop
  | 12 => some s_unit_Aim
  | 13 => some s_ref21_Aim
  | 14 => some s_law21_awake
  | 15 => some s_unit_Give
  | 16 => some s_ref21_Give
  | 17 => some s_law21_same
  | 18 => some s_ref21_May
  | 19 => some s_unit_Step
  | 20 => some s_unit_Next
  | 21 => some s_ref21_Next
  | 22 => some s_unit_Check
  | 23 => some s_ref21_Check
  | 24 => some s_ref21_Step
  | 25 => some s_unit_Hold
  | 26 => some s_ref21_Hold
  | 27 => some s_unit_Aside
  | 28 => some s_ref21_Aside
  | 29 => some s_unit_Lose
  | 30 => some s_ref21_Lose
  | 31 => some s_slices_Clone_api_Cell_api_Cell
  | 32 => some s_ref06_May
  | 33 => some s_ref21_cell
  | 34 => some s_ref03_Dir
  | 35 => some s_unit_goes
  | 36 => some s_unit_idle
  | 37 => some s_unit_moving
  | 38 => some s_unit_stuck
  | 39 => some s_class_May
  | 40 => some s_unit_inside
  | 41 => some s_ref21_errno
  | 42 => some s_cell_Dir
  | 43 => some s_ref03_Step
  | 44 => some s_cell_Has
  | 45 => some s_cell_Step
  | 46 => some s_ref03_Turn
  | 47 => some s_ref03_Near
  | 48 => some s_cell_May
  | 49 => some s_cell_last
  | 50 => some s_cell_turn
  | 51 => some s_cell_Near
  | 52 => some s_cell_plus
  | 53 => some s_ref03_near
  | 54 => some s_cell_side
  | 55 => some s_cell_near
  | _ => none
@[go_sem] def u_ref21_Same_p0 {F K fr m} := @RK_unf F K fr m _ _ s_ref21_Same_p0.eq_1
@[go_sem] def u_ref21_Same_p1 {F K fr m} := @RK_unf F K fr m _ _ s_ref21_Same_p1.eq_1
@[go_sem] def u_ref21_Same_p2 {F K fr m} := @RK_unf F K fr m _ _ s_ref21_Same_p2.eq_1
@[go_sem] def u_ref21_Same_p3 {F K fr m} := @RK_unf F K fr m _ _ s_ref21_Same_p3.eq_1
@[go_sem] def u_ref21_Same_p4 {F K fr m} := @RK_unf F K fr m _ _ s_ref21_Same_p4.eq_1
@[go_sem] def u_ref21_Same_p5 {F K fr m} := @RK_unf F K fr m _ _ s_ref21_Same_p5.eq_1
@[go_sem] def u_ref21_Same_p6 {F K fr m} := @RK_unf F K fr m _ _ s_ref21_Same_p6.eq_1
theorem t_ref21_Same : tb f_ref21_Same = some s_ref21_Same := rfl
@[go_sem] def u_unit_Stop_p0 {F K fr m} := @RK_unf F K fr m _ _ s_unit_Stop_p0.eq_1
@[go_sem] def u_unit_Stop_p1 {F K fr m} := @RK_unf F K fr m _ _ s_unit_Stop_p1.eq_1
theorem t_unit_Stop : tb f_unit_Stop = some s_unit_Stop := rfl
@[go_sem] def u_ref21_Stop_p0 {F K fr m} := @RK_unf F K fr m _ _ s_ref21_Stop_p0.eq_1
@[go_sem] def u_ref21_Stop_p1 {F K fr m} := @RK_unf F K fr m _ _ s_ref21_Stop_p1.eq_1
theorem t_ref21_Stop : tb f_ref21_Stop = some s_ref21_Stop := rfl
@[go_sem] def u_unit_Aim_p0 {F K fr m} := @RK_unf F K fr m _ _ s_unit_Aim_p0.eq_1
@[go_sem] def u_unit_Aim_p1 {F K fr m} := @RK_unf F K fr m _ _ s_unit_Aim_p1.eq_1
@[go_sem] def u_unit_Aim_p2 {F K fr m} := @RK_unf F K fr m _ _ s_unit_Aim_p2.eq_1
@[go_sem] def u_unit_Aim_p3 {F K fr m} := @RK_unf F K fr m _ _ s_unit_Aim_p3.eq_1
@[go_sem] def u_unit_Aim_p4 {F K fr m} := @RK_unf F K fr m _ _ s_unit_Aim_p4.eq_1
theorem t_unit_Aim : tb f_unit_Aim = some s_unit_Aim := rfl
@[go_sem] def u_ref21_Aim_p0 {F K fr m} := @RK_unf F K fr m _ _ s_ref21_Aim_p0.eq_1
@[go_sem] def u_ref21_Aim_p1 {F K fr m} := @RK_unf F K fr m _ _ s_ref21_Aim_p1.eq_1
@[go_sem] def u_ref21_Aim_p2 {F K fr m} := @RK_unf F K fr m _ _ s_ref21_Aim_p2.eq_1
@[go_sem] def u_ref21_Aim_p3 {F K fr m} := @RK_unf F K fr m _ _ s_ref21_Aim_p3.eq_1
@[go_sem] def u_ref21_Aim_p4 {F K fr m} := @RK_unf F K fr m _ _ s_ref21_Aim_p4.eq_1
theorem t_ref21_Aim : tb f_ref21_Aim = some s_ref21_Aim := rfl
@[go_sem] def u_unit_stuck_p0 {F K fr m} := @RK_unf F K fr m _ _ s_unit_stuck_p0.eq_1
theorem t_unit_stuck : tb f_unit_stuck = some s_unit_stuck := rfl
@[go_sem] def u_unit_idle_p0 {F K fr m} := @RK_unf F K fr m _ _ s_unit_idle_p0.eq_1
theorem t_unit_idle : tb f_unit_idle = some s_unit_idle := rfl
@[go_sem] def u_cell_last_p0 {F K fr m} := @RK_unf F K fr m _ _ s_cell_last_p0.eq_1
theorem t_cell_last : tb f_cell_last = some s_cell_last := rfl
@[go_sem] def u_cell_near_p0 {F K fr m} := @RK_unf F K fr m _ _ s_cell_near_p0.eq_1
theorem t_cell_near : tb f_cell_near = some s_cell_near := rfl
@[go_sem] def u_cell_Near_p0 {F K fr m} := @RK_unf F K fr m _ _ s_cell_Near_p0.eq_1
theorem t_cell_Near : tb f_cell_Near = some s_cell_Near := rfl
@[go_sem] def u_cell_side_p0 {F K fr m} := @RK_unf F K fr m _ _ s_cell_side_p0.eq_1
theorem t_cell_side : tb f_cell_side = some s_cell_side := rfl
@[go_sem] def u_cell_May_p0 {F K fr m} := @RK_unf F K fr m _ _ s_cell_May_p0.eq_1
theorem t_cell_May : tb f_cell_May = some s_cell_May := rfl
@[go_sem] def u_cell_Has_p0 {F K fr m} := @RK_unf F K fr m _ _ s_cell_Has_p0.eq_1
@[go_sem] def u_cell_Has_p1 {F K fr m} := @RK_unf F K fr m _ _ s_cell_Has_p1.eq_1
@[go_sem] def u_cell_Has_p2 {F K fr m} := @RK_unf F K fr m _ _ s_cell_Has_p2.eq_1
@[go_sem] def u_cell_Has_p3 {F K fr m} := @RK_unf F K fr m _ _ s_cell_Has_p3.eq_1
theorem t_cell_Has : tb f_cell_Has = some s_cell_Has := rfl
@[go_sem] def u_unit_inside_p0 {F K fr m} := @RK_unf F K fr m _ _ s_unit_inside_p0.eq_1
theorem t_unit_inside : tb f_unit_inside = some s_unit_inside := rfl
@[go_sem] def u_cell_turn_p0 {F K fr m} := @RK_unf F K fr m _ _ s_cell_turn_p0.eq_1
@[go_sem] def u_cell_turn_p1 {F K fr m} := @RK_unf F K fr m _ _ s_cell_turn_p1.eq_1
@[go_sem] def u_cell_turn_p2 {F K fr m} := @RK_unf F K fr m _ _ s_cell_turn_p2.eq_1
@[go_sem] def u_cell_turn_p3 {F K fr m} := @RK_unf F K fr m _ _ s_cell_turn_p3.eq_1
@[go_sem] def u_cell_turn_p4 {F K fr m} := @RK_unf F K fr m _ _ s_cell_turn_p4.eq_1
@[go_sem] def u_cell_turn_p5 {F K fr m} := @RK_unf F K fr m _ _ s_cell_turn_p5.eq_1
@[go_sem] def u_cell_turn_p6 {F K fr m} := @RK_unf F K fr m _ _ s_cell_turn_p6.eq_1
@[go_sem] def u_cell_turn_p7 {F K fr m} := @RK_unf F K fr m _ _ s_cell_turn_p7.eq_1
@[go_sem] def u_cell_turn_p8 {F K fr m} := @RK_unf F K fr m _ _ s_cell_turn_p8.eq_1
@[go_sem] def u_cell_turn_p9 {F K fr m} := @RK_unf F K fr m _ _ s_cell_turn_p9.eq_1
@[go_sem] def u_cell_turn_p10 {F K fr m} := @RK_unf F K fr m _ _ s_cell_turn_p10.eq_1
@[go_sem] def u_cell_turn_p11 {F K fr m} := @RK_unf F K fr m _ _ s_cell_turn_p11.eq_1
theorem t_cell_turn : tb f_cell_turn = some s_cell_turn := rfl
@[go_sem] def u_cell_plus_p0 {F K fr m} := @RK_unf F K fr m _ _ s_cell_plus_p0.eq_1
@[go_sem] def u_cell_plus_p1 {F K fr m} := @RK_unf F K fr m _ _ s_cell_plus_p1.eq_1
theorem t_cell_plus : tb f_cell_plus = some s_cell_plus := rfl
@[go_sem] def u_cell_Step_p0 {F K fr m} := @RK_unf F K fr m _ _ s_cell_Step_p0.eq_1
@[go_sem] def u_cell_Step_p1 {F K fr m} := @RK_unf F K fr m _ _ s_cell_Step_p1.eq_1
@[go_sem] def u_cell_Step_p2 {F K fr m} := @RK_unf F K fr m _ _ s_cell_Step_p2.eq_1
@[go_sem] def u_cell_Step_p3 {F K fr m} := @RK_unf F K fr m _ _ s_cell_Step_p3.eq_1
@[go_sem] def u_cell_Step_p4 {F K fr m} := @RK_unf F K fr m _ _ s_cell_Step_p4.eq_1
theorem t_cell_Step : tb f_cell_Step = some s_cell_Step := rfl
@[go_sem] def u_cell_Dir_p0 {F K fr m} := @RK_unf F K fr m _ _ s_cell_Dir_p0.eq_1
@[go_sem] def u_cell_Dir_p1 {F K fr m} := @RK_unf F K fr m _ _ s_cell_Dir_p1.eq_1
@[go_sem] def u_cell_Dir_p2 {F K fr m} := @RK_unf F K fr m _ _ s_cell_Dir_p2.eq_1
@[go_sem] def u_cell_Dir_p3 {F K fr m} := @RK_unf F K fr m _ _ s_cell_Dir_p3.eq_1
@[go_sem] def u_cell_Dir_p4 {F K fr m} := @RK_unf F K fr m _ _ s_cell_Dir_p4.eq_1
@[go_sem] def u_cell_Dir_p5 {F K fr m} := @RK_unf F K fr m _ _ s_cell_Dir_p5.eq_1
theorem t_cell_Dir : tb f_cell_Dir = some s_cell_Dir := rfl
@[go_sem] def u_unit_moving_p0 {F K fr m} := @RK_unf F K fr m _ _ s_unit_moving_p0.eq_1
@[go_sem] def u_unit_moving_p1 {F K fr m} := @RK_unf F K fr m _ _ s_unit_moving_p1.eq_1
@[go_sem] def u_unit_moving_p2 {F K fr m} := @RK_unf F K fr m _ _ s_unit_moving_p2.eq_1
@[go_sem] def u_unit_moving_p3 {F K fr m} := @RK_unf F K fr m _ _ s_unit_moving_p3.eq_1
@[go_sem] def u_unit_moving_p4 {F K fr m} := @RK_unf F K fr m _ _ s_unit_moving_p4.eq_1
@[go_sem] def u_unit_moving_p5 {F K fr m} := @RK_unf F K fr m _ _ s_unit_moving_p5.eq_1
@[go_sem] def u_unit_moving_p6 {F K fr m} := @RK_unf F K fr m _ _ s_unit_moving_p6.eq_1
@[go_sem] def u_unit_moving_p7 {F K fr m} := @RK_unf F K fr m _ _ s_unit_moving_p7.eq_1
@[go_sem] def u_unit_moving_p8 {F K fr m} := @RK_unf F K fr m _ _ s_unit_moving_p8.eq_1
@[go_sem] def u_unit_moving_p9 {F K fr m} := @RK_unf F K fr m _ _ s_unit_moving_p9.eq_1
theorem t_unit_moving : tb f_unit_moving = some s_unit_moving := rfl
@[go_sem] def u_class_May_p0 {F K fr m} := @RK_unf F K fr m _ _ s_class_May_p0.eq_1
theorem t_class_May : tb f_class_May = some s_class_May := rfl
@[go_sem] def u_unit_Check_p0 {F K fr m} := @RK_unf F K fr m _ _ s_unit_Check_p0.eq_1
@[go_sem] def u_unit_Check_p1 {F K fr m} := @RK_unf F K fr m _ _ s_unit_Check_p1.eq_1
@[go_sem] def u_unit_Check_p2 {F K fr m} := @RK_unf F K fr m _ _ s_unit_Check_p2.eq_1
@[go_sem] def u_unit_Check_p3 {F K fr m} := @RK_unf F K fr m _ _ s_unit_Check_p3.eq_1
@[go_sem] def u_unit_Check_p4 {F K fr m} := @RK_unf F K fr m _ _ s_unit_Check_p4.eq_1
@[go_sem] def u_unit_Check_p5 {F K fr m} := @RK_unf F K fr m _ _ s_unit_Check_p5.eq_1
theorem t_unit_Check : tb f_unit_Check = some s_unit_Check := rfl
@[go_sem] def u_slices_Clone_api_Cell_api_Cell_p0 {F K fr m} := @RK_unf F K fr m _ _ s_slices_Clone_api_Cell_api_Cell_p0.eq_1
@[go_sem] def u_slices_Clone_api_Cell_api_Cell_p1 {F K fr m} := @RK_unf F K fr m _ _ s_slices_Clone_api_Cell_api_Cell_p1.eq_1
theorem t_slices_Clone_api_Cell_api_Cell : tb f_slices_Clone_api_Cell_api_Cell = some s_slices_Clone_api_Cell_api_Cell := rfl
@[go_sem] def u_unit_Give_p0 {F K fr m} := @RK_unf F K fr m _ _ s_unit_Give_p0.eq_1
@[go_sem] def u_unit_Give_p1 {F K fr m} := @RK_unf F K fr m _ _ s_unit_Give_p1.eq_1
@[go_sem] def u_unit_Give_p2 {F K fr m} := @RK_unf F K fr m _ _ s_unit_Give_p2.eq_1
@[go_sem] def u_unit_Give_p3 {F K fr m} := @RK_unf F K fr m _ _ s_unit_Give_p3.eq_1
@[go_sem] def u_unit_Give_p4 {F K fr m} := @RK_unf F K fr m _ _ s_unit_Give_p4.eq_1
@[go_sem] def u_unit_Give_p5 {F K fr m} := @RK_unf F K fr m _ _ s_unit_Give_p5.eq_1
@[go_sem] def u_unit_Give_p6 {F K fr m} := @RK_unf F K fr m _ _ s_unit_Give_p6.eq_1
theorem t_unit_Give : tb f_unit_Give = some s_unit_Give := rfl
@[go_sem] def u_unit_goes_p0 {F K fr m} := @RK_unf F K fr m _ _ s_unit_goes_p0.eq_1
theorem t_unit_goes : tb f_unit_goes = some s_unit_goes := rfl
@[go_sem] def u_unit_Step_p0 {F K fr m} := @RK_unf F K fr m _ _ s_unit_Step_p0.eq_1
@[go_sem] def u_unit_Step_p1 {F K fr m} := @RK_unf F K fr m _ _ s_unit_Step_p1.eq_1
@[go_sem] def u_unit_Step_p2 {F K fr m} := @RK_unf F K fr m _ _ s_unit_Step_p2.eq_1
@[go_sem] def u_unit_Step_p3 {F K fr m} := @RK_unf F K fr m _ _ s_unit_Step_p3.eq_1
@[go_sem] def u_unit_Step_p4 {F K fr m} := @RK_unf F K fr m _ _ s_unit_Step_p4.eq_1
@[go_sem] def u_unit_Step_p5 {F K fr m} := @RK_unf F K fr m _ _ s_unit_Step_p5.eq_1
@[go_sem] def u_unit_Step_p6 {F K fr m} := @RK_unf F K fr m _ _ s_unit_Step_p6.eq_1
theorem t_unit_Step : tb f_unit_Step = some s_unit_Step := rfl
@[go_sem] def u_law21_awake_p0 {F K fr m} := @RK_unf F K fr m _ _ s_law21_awake_p0.eq_1
@[go_sem] def u_law21_awake_p1 {F K fr m} := @RK_unf F K fr m _ _ s_law21_awake_p1.eq_1
@[go_sem] def u_law21_awake_p2 {F K fr m} := @RK_unf F K fr m _ _ s_law21_awake_p2.eq_1
@[go_sem] def u_law21_awake_p3 {F K fr m} := @RK_unf F K fr m _ _ s_law21_awake_p3.eq_1
@[go_sem] def u_law21_awake_p4 {F K fr m} := @RK_unf F K fr m _ _ s_law21_awake_p4.eq_1
theorem t_law21_awake : tb f_law21_awake = some s_law21_awake := rfl
@[go_sem] def u_law21_UnitAims_p0 {F K fr m} := @RK_unf F K fr m _ _ s_law21_UnitAims_p0.eq_1
@[go_sem] def u_law21_UnitAims_p1 {F K fr m} := @RK_unf F K fr m _ _ s_law21_UnitAims_p1.eq_1
theorem t_law21_UnitAims : tb f_law21_UnitAims = some s_law21_UnitAims := rfl
@[go_sem] def u_ref06_May_p0 {F K fr m} := @RK_unf F K fr m _ _ s_ref06_May_p0.eq_1
theorem t_ref06_May : tb f_ref06_May = some s_ref06_May := rfl
@[go_sem] def u_ref21_cell_p0 {F K fr m} := @RK_unf F K fr m _ _ s_ref21_cell_p0.eq_1
theorem t_ref21_cell : tb f_ref21_cell = some s_ref21_cell := rfl
@[go_sem] def u_ref03_Turn_p0 {F K fr m} := @RK_unf F K fr m _ _ s_ref03_Turn_p0.eq_1
@[go_sem] def u_ref03_Turn_p1 {F K fr m} := @RK_unf F K fr m _ _ s_ref03_Turn_p1.eq_1
@[go_sem] def u_ref03_Turn_p2 {F K fr m} := @RK_unf F K fr m _ _ s_ref03_Turn_p2.eq_1
@[go_sem] def u_ref03_Turn_p3 {F K fr m} := @RK_unf F K fr m _ _ s_ref03_Turn_p3.eq_1
@[go_sem] def u_ref03_Turn_p4 {F K fr m} := @RK_unf F K fr m _ _ s_ref03_Turn_p4.eq_1
@[go_sem] def u_ref03_Turn_p5 {F K fr m} := @RK_unf F K fr m _ _ s_ref03_Turn_p5.eq_1
@[go_sem] def u_ref03_Turn_p6 {F K fr m} := @RK_unf F K fr m _ _ s_ref03_Turn_p6.eq_1
@[go_sem] def u_ref03_Turn_p7 {F K fr m} := @RK_unf F K fr m _ _ s_ref03_Turn_p7.eq_1
@[go_sem] def u_ref03_Turn_p8 {F K fr m} := @RK_unf F K fr m _ _ s_ref03_Turn_p8.eq_1
@[go_sem] def u_ref03_Turn_p9 {F K fr m} := @RK_unf F K fr m _ _ s_ref03_Turn_p9.eq_1
theorem t_ref03_Turn : tb f_ref03_Turn = some s_ref03_Turn := rfl
@[go_sem] def u_ref03_near_p0 {F K fr m} := @RK_unf F K fr m _ _ s_ref03_near_p0.eq_1
theorem t_ref03_near : tb f_ref03_near = some s_ref03_near := rfl
@[go_sem] def u_ref03_Near_p0 {F K fr m} := @RK_unf F K fr m _ _ s_ref03_Near_p0.eq_1
theorem t_ref03_Near : tb f_ref03_Near = some s_ref03_Near := rfl
@[go_sem] def u_ref03_Step_p0 {F K fr m} := @RK_unf F K fr m _ _ s_ref03_Step_p0.eq_1
@[go_sem] def u_ref03_Step_p1 {F K fr m} := @RK_unf F K fr m _ _ s_ref03_Step_p1.eq_1
@[go_sem] def u_ref03_Step_p2 {F K fr m} := @RK_unf F K fr m _ _ s_ref03_Step_p2.eq_1
@[go_sem] def u_ref03_Step_p3 {F K fr m} := @RK_unf F K fr m _ _ s_ref03_Step_p3.eq_1
@[go_sem] def u_ref03_Step_p4 {F K fr m} := @RK_unf F K fr m _ _ s_ref03_Step_p4.eq_1
@[go_sem] def u_ref03_Step_p5 {F K fr m} := @RK_unf F K fr m _ _ s_ref03_Step_p5.eq_1
@[go_sem] def u_ref03_Step_p6 {F K fr m} := @RK_unf F K fr m _ _ s_ref03_Step_p6.eq_1
@[go_sem] def u_ref03_Step_p7 {F K fr m} := @RK_unf F K fr m _ _ s_ref03_Step_p7.eq_1
theorem t_ref03_Step : tb f_ref03_Step = some s_ref03_Step := rfl
@[go_sem] def u_ref03_Dir_p0 {F K fr m} := @RK_unf F K fr m _ _ s_ref03_Dir_p0.eq_1
@[go_sem] def u_ref03_Dir_p1 {F K fr m} := @RK_unf F K fr m _ _ s_ref03_Dir_p1.eq_1
@[go_sem] def u_ref03_Dir_p2 {F K fr m} := @RK_unf F K fr m _ _ s_ref03_Dir_p2.eq_1
@[go_sem] def u_ref03_Dir_p3 {F K fr m} := @RK_unf F K fr m _ _ s_ref03_Dir_p3.eq_1
@[go_sem] def u_ref03_Dir_p4 {F K fr m} := @RK_unf F K fr m _ _ s_ref03_Dir_p4.eq_1
@[go_sem] def u_ref03_Dir_p5 {F K fr m} := @RK_unf F K fr m _ _ s_ref03_Dir_p5.eq_1
theorem t_ref03_Dir : tb f_ref03_Dir = some s_ref03_Dir := rfl
@[go_sem] def u_ref21_May_p0 {F K fr m} := @RK_unf F K fr m _ _ s_ref21_May_p0.eq_1
@[go_sem] def u_ref21_May_p1 {F K fr m} := @RK_unf F K fr m _ _ s_ref21_May_p1.eq_1
@[go_sem] def u_ref21_May_p2 {F K fr m} := @RK_unf F K fr m _ _ s_ref21_May_p2.eq_1
@[go_sem] def u_ref21_May_p3 {F K fr m} := @RK_unf F K fr m _ _ s_ref21_May_p3.eq_1
@[go_sem] def u_ref21_May_p4 {F K fr m} := @RK_unf F K fr m _ _ s_ref21_May_p4.eq_1
@[go_sem] def u_ref21_May_p5 {F K fr m} := @RK_unf F K fr m _ _ s_ref21_May_p5.eq_1
@[go_sem] def u_ref21_May_p6 {F K fr m} := @RK_unf F K fr m _ _ s_ref21_May_p6.eq_1
@[go_sem] def u_ref21_May_p7 {F K fr m} := @RK_unf F K fr m _ _ s_ref21_May_p7.eq_1
@[go_sem] def u_ref21_May_p8 {F K fr m} := @RK_unf F K fr m _ _ s_ref21_May_p8.eq_1
@[go_sem] def u_ref21_May_p9 {F K fr m} := @RK_unf F K fr m _ _ s_ref21_May_p9.eq_1
@[go_sem] def u_ref21_May_p10 {F K fr m} := @RK_unf F K fr m _ _ s_ref21_May_p10.eq_1
@[go_sem] def u_ref21_May_p11 {F K fr m} := @RK_unf F K fr m _ _ s_ref21_May_p11.eq_1
@[go_sem] def u_ref21_May_p12 {F K fr m} := @RK_unf F K fr m _ _ s_ref21_May_p12.eq_1
@[go_sem] def u_ref21_May_p13 {F K fr m} := @RK_unf F K fr m _ _ s_ref21_May_p13.eq_1
@[go_sem] def u_ref21_May_p14 {F K fr m} := @RK_unf F K fr m _ _ s_ref21_May_p14.eq_1
@[go_sem] def u_ref21_May_p15 {F K fr m} := @RK_unf F K fr m _ _ s_ref21_May_p15.eq_1
theorem t_ref21_May : tb f_ref21_May = some s_ref21_May := rfl
@[go_sem] def u_ref21_Give_p0 {F K fr m} := @RK_unf F K fr m _ _ s_ref21_Give_p0.eq_1
@[go_sem] def u_ref21_Give_p1 {F K fr m} := @RK_unf F K fr m _ _ s_ref21_Give_p1.eq_1
@[go_sem] def u_ref21_Give_p2 {F K fr m} := @RK_unf F K fr m _ _ s_ref21_Give_p2.eq_1
@[go_sem] def u_ref21_Give_p3 {F K fr m} := @RK_unf F K fr m _ _ s_ref21_Give_p3.eq_1
@[go_sem] def u_ref21_Give_p4 {F K fr m} := @RK_unf F K fr m _ _ s_ref21_Give_p4.eq_1
@[go_sem] def u_ref21_Give_p5 {F K fr m} := @RK_unf F K fr m _ _ s_ref21_Give_p5.eq_1
@[go_sem] def u_ref21_Give_p6 {F K fr m} := @RK_unf F K fr m _ _ s_ref21_Give_p6.eq_1
@[go_sem] def u_ref21_Give_p7 {F K fr m} := @RK_unf F K fr m _ _ s_ref21_Give_p7.eq_1
@[go_sem] def u_ref21_Give_p8 {F K fr m} := @RK_unf F K fr m _ _ s_ref21_Give_p8.eq_1
theorem t_ref21_Give : tb f_ref21_Give = some s_ref21_Give := rfl
@[go_sem] def u_law21_same_p0 {F K fr m} := @RK_unf F K fr m _ _ s_law21_same_p0.eq_1
@[go_sem] def u_law21_same_p1 {F K fr m} := @RK_unf F K fr m _ _ s_law21_same_p1.eq_1
theorem t_law21_same : tb f_law21_same = some s_law21_same := rfl
@[go_sem] def u_law21_UnitGives_p0 {F K fr m} := @RK_unf F K fr m _ _ s_law21_UnitGives_p0.eq_1
@[go_sem] def u_law21_UnitGives_p1 {F K fr m} := @RK_unf F K fr m _ _ s_law21_UnitGives_p1.eq_1
@[go_sem] def u_law21_UnitGives_p2 {F K fr m} := @RK_unf F K fr m _ _ s_law21_UnitGives_p2.eq_1
@[go_sem] def u_law21_UnitGives_p3 {F K fr m} := @RK_unf F K fr m _ _ s_law21_UnitGives_p3.eq_1
@[go_sem] def u_law21_UnitGives_p4 {F K fr m} := @RK_unf F K fr m _ _ s_law21_UnitGives_p4.eq_1
@[go_sem] def u_law21_UnitGives_p5 {F K fr m} := @RK_unf F K fr m _ _ s_law21_UnitGives_p5.eq_1
@[go_sem] def u_law21_UnitGives_p6 {F K fr m} := @RK_unf F K fr m _ _ s_law21_UnitGives_p6.eq_1
@[go_sem] def u_law21_UnitGives_p7 {F K fr m} := @RK_unf F K fr m _ _ s_law21_UnitGives_p7.eq_1
@[go_sem] def u_law21_UnitGives_p8 {F K fr m} := @RK_unf F K fr m _ _ s_law21_UnitGives_p8.eq_1
@[go_sem] def u_law21_UnitGives_p9 {F K fr m} := @RK_unf F K fr m _ _ s_law21_UnitGives_p9.eq_1
theorem t_law21_UnitGives : tb f_law21_UnitGives = some s_law21_UnitGives := rfl
@[go_sem] def u_law21_UnitWalks_p0 {F K fr m} := @RK_unf F K fr m _ _ s_law21_UnitWalks_p0.eq_1
@[go_sem] def u_law21_UnitWalks_p1 {F K fr m} := @RK_unf F K fr m _ _ s_law21_UnitWalks_p1.eq_1
@[go_sem] def u_law21_UnitWalks_p2 {F K fr m} := @RK_unf F K fr m _ _ s_law21_UnitWalks_p2.eq_1
@[go_sem] def u_law21_UnitWalks_p3 {F K fr m} := @RK_unf F K fr m _ _ s_law21_UnitWalks_p3.eq_1
@[go_sem] def u_law21_UnitWalks_p4 {F K fr m} := @RK_unf F K fr m _ _ s_law21_UnitWalks_p4.eq_1
@[go_sem] def u_law21_UnitWalks_p5 {F K fr m} := @RK_unf F K fr m _ _ s_law21_UnitWalks_p5.eq_1
@[go_sem] def u_law21_UnitWalks_p6 {F K fr m} := @RK_unf F K fr m _ _ s_law21_UnitWalks_p6.eq_1
@[go_sem] def u_law21_UnitWalks_p7 {F K fr m} := @RK_unf F K fr m _ _ s_law21_UnitWalks_p7.eq_1
@[go_sem] def u_law21_UnitWalks_p8 {F K fr m} := @RK_unf F K fr m _ _ s_law21_UnitWalks_p8.eq_1
@[go_sem] def u_law21_UnitWalks_p9 {F K fr m} := @RK_unf F K fr m _ _ s_law21_UnitWalks_p9.eq_1
@[go_sem] def u_law21_UnitWalks_p10 {F K fr m} := @RK_unf F K fr m _ _ s_law21_UnitWalks_p10.eq_1
theorem t_law21_UnitWalks : tb f_law21_UnitWalks = some s_law21_UnitWalks := rfl
@[go_sem] def u_unit_Next_p0 {F K fr m} := @RK_unf F K fr m _ _ s_unit_Next_p0.eq_1
@[go_sem] def u_unit_Next_p1 {F K fr m} := @RK_unf F K fr m _ _ s_unit_Next_p1.eq_1
@[go_sem] def u_unit_Next_p2 {F K fr m} := @RK_unf F K fr m _ _ s_unit_Next_p2.eq_1
@[go_sem] def u_unit_Next_p3 {F K fr m} := @RK_unf F K fr m _ _ s_unit_Next_p3.eq_1
theorem t_unit_Next : tb f_unit_Next = some s_unit_Next := rfl
@[go_sem] def u_ref21_Next_p0 {F K fr m} := @RK_unf F K fr m _ _ s_ref21_Next_p0.eq_1
@[go_sem] def u_ref21_Next_p1 {F K fr m} := @RK_unf F K fr m _ _ s_ref21_Next_p1.eq_1
@[go_sem] def u_ref21_Next_p2 {F K fr m} := @RK_unf F K fr m _ _ s_ref21_Next_p2.eq_1
@[go_sem] def u_ref21_Next_p3 {F K fr m} := @RK_unf F K fr m _ _ s_ref21_Next_p3.eq_1
theorem t_ref21_Next : tb f_ref21_Next = some s_ref21_Next := rfl
@[go_sem] def u_ref21_errno_p0 {F K fr m} := @RK_unf F K fr m _ _ s_ref21_errno_p0.eq_1
theorem t_ref21_errno : tb f_ref21_errno = some s_ref21_errno := rfl
@[go_sem] def u_ref21_Check_p0 {F K fr m} := @RK_unf F K fr m _ _ s_ref21_Check_p0.eq_1
theorem t_ref21_Check : tb f_ref21_Check = some s_ref21_Check := rfl
@[go_sem] def u_law21_UnitChecks_p0 {F K fr m} := @RK_unf F K fr m _ _ s_law21_UnitChecks_p0.eq_1
@[go_sem] def u_law21_UnitChecks_p1 {F K fr m} := @RK_unf F K fr m _ _ s_law21_UnitChecks_p1.eq_1
@[go_sem] def u_law21_UnitChecks_p2 {F K fr m} := @RK_unf F K fr m _ _ s_law21_UnitChecks_p2.eq_1
@[go_sem] def u_law21_UnitChecks_p3 {F K fr m} := @RK_unf F K fr m _ _ s_law21_UnitChecks_p3.eq_1
theorem t_law21_UnitChecks : tb f_law21_UnitChecks = some s_law21_UnitChecks := rfl
@[go_sem] def u_ref21_Step_p0 {F K fr m} := @RK_unf F K fr m _ _ s_ref21_Step_p0.eq_1
@[go_sem] def u_ref21_Step_p1 {F K fr m} := @RK_unf F K fr m _ _ s_ref21_Step_p1.eq_1
@[go_sem] def u_ref21_Step_p2 {F K fr m} := @RK_unf F K fr m _ _ s_ref21_Step_p2.eq_1
@[go_sem] def u_ref21_Step_p3 {F K fr m} := @RK_unf F K fr m _ _ s_ref21_Step_p3.eq_1
@[go_sem] def u_ref21_Step_p4 {F K fr m} := @RK_unf F K fr m _ _ s_ref21_Step_p4.eq_1
@[go_sem] def u_ref21_Step_p5 {F K fr m} := @RK_unf F K fr m _ _ s_ref21_Step_p5.eq_1
@[go_sem] def u_ref21_Step_p6 {F K fr m} := @RK_unf F K fr m _ _ s_ref21_Step_p6.eq_1
@[go_sem] def u_ref21_Step_p7 {F K fr m} := @RK_unf F K fr m _ _ s_ref21_Step_p7.eq_1
@[go_sem] def u_ref21_Step_p8 {F K fr m} := @RK_unf F K fr m _ _ s_ref21_Step_p8.eq_1
@[go_sem] def u_ref21_Step_p9 {F K fr m} := @RK_unf F K fr m _ _ s_ref21_Step_p9.eq_1
theorem t_ref21_Step : tb f_ref21_Step = some s_ref21_Step := rfl
@[go_sem] def u_unit_Hold_p0 {F K fr m} := @RK_unf F K fr m _ _ s_unit_Hold_p0.eq_1
@[go_sem] def u_unit_Hold_p1 {F K fr m} := @RK_unf F K fr m _ _ s_unit_Hold_p1.eq_1
@[go_sem] def u_unit_Hold_p2 {F K fr m} := @RK_unf F K fr m _ _ s_unit_Hold_p2.eq_1
@[go_sem] def u_unit_Hold_p3 {F K fr m} := @RK_unf F K fr m _ _ s_unit_Hold_p3.eq_1
@[go_sem] def u_unit_Hold_p4 {F K fr m} := @RK_unf F K fr m _ _ s_unit_Hold_p4.eq_1
@[go_sem] def u_unit_Hold_p5 {F K fr m} := @RK_unf F K fr m _ _ s_unit_Hold_p5.eq_1
theorem t_unit_Hold : tb f_unit_Hold = some s_unit_Hold := rfl
@[go_sem] def u_ref21_Hold_p0 {F K fr m} := @RK_unf F K fr m _ _ s_ref21_Hold_p0.eq_1
@[go_sem] def u_ref21_Hold_p1 {F K fr m} := @RK_unf F K fr m _ _ s_ref21_Hold_p1.eq_1
@[go_sem] def u_ref21_Hold_p2 {F K fr m} := @RK_unf F K fr m _ _ s_ref21_Hold_p2.eq_1
@[go_sem] def u_ref21_Hold_p3 {F K fr m} := @RK_unf F K fr m _ _ s_ref21_Hold_p3.eq_1
@[go_sem] def u_ref21_Hold_p4 {F K fr m} := @RK_unf F K fr m _ _ s_ref21_Hold_p4.eq_1
@[go_sem] def u_ref21_Hold_p5 {F K fr m} := @RK_unf F K fr m _ _ s_ref21_Hold_p5.eq_1
@[go_sem] def u_ref21_Hold_p6 {F K fr m} := @RK_unf F K fr m _ _ s_ref21_Hold_p6.eq_1
@[go_sem] def u_ref21_Hold_p7 {F K fr m} := @RK_unf F K fr m _ _ s_ref21_Hold_p7.eq_1
theorem t_ref21_Hold : tb f_ref21_Hold = some s_ref21_Hold := rfl
@[go_sem] def u_unit_Aside_p0 {F K fr m} := @RK_unf F K fr m _ _ s_unit_Aside_p0.eq_1
@[go_sem] def u_unit_Aside_p1 {F K fr m} := @RK_unf F K fr m _ _ s_unit_Aside_p1.eq_1
@[go_sem] def u_unit_Aside_p2 {F K fr m} := @RK_unf F K fr m _ _ s_unit_Aside_p2.eq_1
@[go_sem] def u_unit_Aside_p3 {F K fr m} := @RK_unf F K fr m _ _ s_unit_Aside_p3.eq_1
@[go_sem] def u_unit_Aside_p4 {F K fr m} := @RK_unf F K fr m _ _ s_unit_Aside_p4.eq_1
theorem t_unit_Aside : tb f_unit_Aside = some s_unit_Aside := rfl
@[go_sem] def u_ref21_Aside_p0 {F K fr m} := @RK_unf F K fr m _ _ s_ref21_Aside_p0.eq_1
@[go_sem] def u_ref21_Aside_p1 {F K fr m} := @RK_unf F K fr m _ _ s_ref21_Aside_p1.eq_1
@[go_sem] def u_ref21_Aside_p2 {F K fr m} := @RK_unf F K fr m _ _ s_ref21_Aside_p2.eq_1
@[go_sem] def u_ref21_Aside_p3 {F K fr m} := @RK_unf F K fr m _ _ s_ref21_Aside_p3.eq_1
@[go_sem] def u_ref21_Aside_p4 {F K fr m} := @RK_unf F K fr m _ _ s_ref21_Aside_p4.eq_1
@[go_sem] def u_ref21_Aside_p5 {F K fr m} := @RK_unf F K fr m _ _ s_ref21_Aside_p5.eq_1
theorem t_ref21_Aside : tb f_ref21_Aside = some s_ref21_Aside := rfl
@[go_sem] def u_unit_Lose_p0 {F K fr m} := @RK_unf F K fr m _ _ s_unit_Lose_p0.eq_1
@[go_sem] def u_unit_Lose_p1 {F K fr m} := @RK_unf F K fr m _ _ s_unit_Lose_p1.eq_1
@[go_sem] def u_unit_Lose_p2 {F K fr m} := @RK_unf F K fr m _ _ s_unit_Lose_p2.eq_1
@[go_sem] def u_unit_Lose_p3 {F K fr m} := @RK_unf F K fr m _ _ s_unit_Lose_p3.eq_1
theorem t_unit_Lose : tb f_unit_Lose = some s_unit_Lose := rfl
@[go_sem] def u_ref21_Lose_p0 {F K fr m} := @RK_unf F K fr m _ _ s_ref21_Lose_p0.eq_1
@[go_sem] def u_ref21_Lose_p1 {F K fr m} := @RK_unf F K fr m _ _ s_ref21_Lose_p1.eq_1
@[go_sem] def u_ref21_Lose_p2 {F K fr m} := @RK_unf F K fr m _ _ s_ref21_Lose_p2.eq_1
@[go_sem] def u_ref21_Lose_p3 {F K fr m} := @RK_unf F K fr m _ _ s_ref21_Lose_p3.eq_1
theorem t_ref21_Lose : tb f_ref21_Lose = some s_ref21_Lose := rfl
@[go_sem] def u_law21_UnitTurns_p0 {F K fr m} := @RK_unf F K fr m _ _ s_law21_UnitTurns_p0.eq_1
@[go_sem] def u_law21_UnitTurns_p1 {F K fr m} := @RK_unf F K fr m _ _ s_law21_UnitTurns_p1.eq_1
@[go_sem] def u_law21_UnitTurns_p2 {F K fr m} := @RK_unf F K fr m _ _ s_law21_UnitTurns_p2.eq_1
@[go_sem] def u_law21_UnitTurns_p3 {F K fr m} := @RK_unf F K fr m _ _ s_law21_UnitTurns_p3.eq_1
@[go_sem] def u_law21_UnitTurns_p4 {F K fr m} := @RK_unf F K fr m _ _ s_law21_UnitTurns_p4.eq_1
@[go_sem] def u_law21_UnitTurns_p5 {F K fr m} := @RK_unf F K fr m _ _ s_law21_UnitTurns_p5.eq_1
@[go_sem] def u_law21_UnitTurns_p6 {F K fr m} := @RK_unf F K fr m _ _ s_law21_UnitTurns_p6.eq_1
@[go_sem] def u_law21_UnitTurns_p7 {F K fr m} := @RK_unf F K fr m _ _ s_law21_UnitTurns_p7.eq_1
@[go_sem] def u_law21_UnitTurns_p8 {F K fr m} := @RK_unf F K fr m _ _ s_law21_UnitTurns_p8.eq_1
@[go_sem] def u_law21_UnitTurns_p9 {F K fr m} := @RK_unf F K fr m _ _ s_law21_UnitTurns_p9.eq_1
@[go_sem] def u_law21_UnitTurns_p10 {F K fr m} := @RK_unf F K fr m _ _ s_law21_UnitTurns_p10.eq_1
@[go_sem] def u_law21_UnitTurns_p11 {F K fr m} := @RK_unf F K fr m _ _ s_law21_UnitTurns_p11.eq_1
@[go_sem] def u_law21_UnitTurns_p12 {F K fr m} := @RK_unf F K fr m _ _ s_law21_UnitTurns_p12.eq_1
theorem t_law21_UnitTurns : tb f_law21_UnitTurns = some s_law21_UnitTurns := rfl
@[go_sem] def u_law21_UnitKeeps_p0 {F K fr m} := @RK_unf F K fr m _ _ s_law21_UnitKeeps_p0.eq_1
@[go_sem] def u_law21_UnitKeeps_p1 {F K fr m} := @RK_unf F K fr m _ _ s_law21_UnitKeeps_p1.eq_1
@[go_sem] def u_law21_UnitKeeps_p2 {F K fr m} := @RK_unf F K fr m _ _ s_law21_UnitKeeps_p2.eq_1
@[go_sem] def u_law21_UnitKeeps_p3 {F K fr m} := @RK_unf F K fr m _ _ s_law21_UnitKeeps_p3.eq_1
@[go_sem] def u_law21_UnitKeeps_p4 {F K fr m} := @RK_unf F K fr m _ _ s_law21_UnitKeeps_p4.eq_1
@[go_sem] def u_law21_UnitKeeps_p5 {F K fr m} := @RK_unf F K fr m _ _ s_law21_UnitKeeps_p5.eq_1
@[go_sem] def u_law21_UnitKeeps_p6 {F K fr m} := @RK_unf F K fr m _ _ s_law21_UnitKeeps_p6.eq_1
@[go_sem] def u_law21_UnitKeeps_p7 {F K fr m} := @RK_unf F K fr m _ _ s_law21_UnitKeeps_p7.eq_1
@[go_sem] def u_law21_UnitKeeps_p8 {F K fr m} := @RK_unf F K fr m _ _ s_law21_UnitKeeps_p8.eq_1
@[go_sem] def u_law21_UnitKeeps_p9 {F K fr m} := @RK_unf F K fr m _ _ s_law21_UnitKeeps_p9.eq_1
@[go_sem] def u_law21_UnitKeeps_p10 {F K fr m} := @RK_unf F K fr m _ _ s_law21_UnitKeeps_p10.eq_1
@[go_sem] def u_law21_UnitKeeps_p11 {F K fr m} := @RK_unf F K fr m _ _ s_law21_UnitKeeps_p11.eq_1
@[go_sem] def u_law21_UnitKeeps_p12 {F K fr m} := @RK_unf F K fr m _ _ s_law21_UnitKeeps_p12.eq_1
@[go_sem] def u_law21_UnitKeeps_p13 {F K fr m} := @RK_unf F K fr m _ _ s_law21_UnitKeeps_p13.eq_1
@[go_sem] def u_law21_UnitKeeps_p14 {F K fr m} := @RK_unf F K fr m _ _ s_law21_UnitKeeps_p14.eq_1
@[go_sem] def u_law21_UnitKeeps_p15 {F K fr m} := @RK_unf F K fr m _ _ s_law21_UnitKeeps_p15.eq_1
@[go_sem] def u_law21_UnitKeeps_p16 {F K fr m} := @RK_unf F K fr m _ _ s_law21_UnitKeeps_p16.eq_1
@[go_sem] def u_law21_UnitKeeps_p17 {F K fr m} := @RK_unf F K fr m _ _ s_law21_UnitKeeps_p17.eq_1
@[go_sem] def u_law21_UnitKeeps_p18 {F K fr m} := @RK_unf F K fr m _ _ s_law21_UnitKeeps_p18.eq_1
@[go_sem] def u_law21_UnitKeeps_p19 {F K fr m} := @RK_unf F K fr m _ _ s_law21_UnitKeeps_p19.eq_1
@[go_sem] def u_law21_UnitKeeps_p20 {F K fr m} := @RK_unf F K fr m _ _ s_law21_UnitKeeps_p20.eq_1
@[go_sem] def u_law21_UnitKeeps_p21 {F K fr m} := @RK_unf F K fr m _ _ s_law21_UnitKeeps_p21.eq_1
@[go_sem] def u_law21_UnitKeeps_p22 {F K fr m} := @RK_unf F K fr m _ _ s_law21_UnitKeeps_p22.eq_1
@[go_sem] def u_law21_UnitKeeps_p23 {F K fr m} := @RK_unf F K fr m _ _ s_law21_UnitKeeps_p23.eq_1
@[go_sem] def u_law21_UnitKeeps_p24 {F K fr m} := @RK_unf F K fr m _ _ s_law21_UnitKeeps_p24.eq_1
@[go_sem] def u_law21_UnitKeeps_p25 {F K fr m} := @RK_unf F K fr m _ _ s_law21_UnitKeeps_p25.eq_1
theorem t_law21_UnitKeeps : tb f_law21_UnitKeeps = some s_law21_UnitKeeps := rfl
end Go.Sh.T
