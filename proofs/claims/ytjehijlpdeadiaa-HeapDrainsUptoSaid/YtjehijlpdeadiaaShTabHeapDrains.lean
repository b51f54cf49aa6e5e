import Derived.Test.YtjehijlpdeadiaaShH
set_option linter.all false
set_option linter.unusedVariables false
set_option linter.unusedSimpArgs false
set_option autoImplicit false
set_option linter.all false
set_option maxRecDepth 4096
namespace Go.Sh.T
open Go.Sh
def f_law09_HeapDrains : FuncId := 10
def f_heap_New_law09_Item : FuncId := 24
def f_law09_ahead : FuncId := 25
def f_heap_Heap_law09_Item_Push : FuncId := 26
def f_heap_Heap_law09_Item_Top : FuncId := 28
def f_heap_Heap_law09_Item_Len : FuncId := 29
def f_heap_Heap_law09_Item_Pop : FuncId := 30
def f_law09_awake : FuncId := 31
def f_heap_Heap_law09_Item_Drain : FuncId := 38
def f_heap_Heap_law09_Item_first : FuncId := 49
def f_heap_Heap_law09_Item_Drain_1 : FuncId := 52
def s_heap_Heap_law09_Item_Len_p0 : SCode := (.seq (.region false [⟨some 3, .mv (.t 0), none, false⟩,
  ⟨some 4, .eq false false [.ptr] (.t 3) (.v .nilp), none, false⟩]) (.cond (.t 4) (.seq (.region false [⟨some 2, .mv (.v (.int .i64 0)), none, false⟩]) .ret) .skip))
def s_heap_Heap_law09_Item_Len_p1 : SCode := (.region false [⟨some 5, .mv (.t 0), none, false⟩,
  ⟨some 6, .nilck (.t 5), none, false⟩,
  ⟨some 7, .faddr 1 (.t 6), none, false⟩,
  ⟨some 8, .load none (.t 7), none, false⟩,
  ⟨some 9, .len (.t 8), none, false⟩,
  ⟨some 2, .mv (.t 9), none, false⟩])
def s_heap_Heap_law09_Item_Len : SFn := ⟨1, [.t 2], (.seq (.region false [⟨some 2, .mv (.v (.int .i64 0)), none, false⟩]) (.seq (.kp [0] s_heap_Heap_law09_Item_Len_p0) (.seq (.kp [2] s_heap_Heap_law09_Item_Len_p1) .ret)))⟩
def s_heap_Heap_law09_Item_Top_p0 : SCode := (.cond (.t 7) (.seq (.region false [⟨some 8, .load (some 2) (.t 4), none, false⟩,
  ⟨none, .store 2 [] (.t 2) (.t 8), none, false⟩,
  ⟨some 3, .mv (.v (.bool false)), none, false⟩]) .ret) .skip)
def s_heap_Heap_law09_Item_Top_p1 : SCode := (.kp [0, 2] (.seq (.region false [⟨some 5, .mv (.t 0), none, false⟩,
  ⟨some 6, .call f_heap_Heap_law09_Item_Len [(.t 5)], none, false⟩,
  ⟨some 7, .bin .eql (.t 6) (.v (.int .i64 0)), none, false⟩]) s_heap_Heap_law09_Item_Top_p0))
def s_heap_Heap_law09_Item_Top_p2 : SCode := (.region false [⟨some 9, .mv (.t 0), none, false⟩,
  ⟨some 10, .nilck (.t 9), none, false⟩,
  ⟨some 11, .faddr 1 (.t 10), none, false⟩,
  ⟨some 12, .load none (.t 11), none, false⟩,
  ⟨some 13, .iaddr 3 (.t 12) (.v (.int .i64 0)), none, false⟩,
  ⟨some 14, .faddr 0 (.t 13), none, false⟩,
  ⟨some 15, .load (some 2) (.t 14), none, false⟩,
  ⟨none, .store 2 [] (.t 2) (.t 15), none, false⟩,
  ⟨some 3, .mv (.v (.bool true)), none, false⟩])
def s_heap_Heap_law09_Item_Top_p3 : SCode := (.seq (.region false [⟨some 2, .alloc true [(.int .i64 0), (.int .i64 0)], none, false⟩,
  ⟨some 3, .mv (.v (.bool false)), none, false⟩]) (.seq (.region false [⟨some 4, .alloc true [(.int .i64 0), (.int .i64 0)], none, false⟩]) (.seq s_heap_Heap_law09_Item_Top_p1 (.seq (.kp [2, 3] s_heap_Heap_law09_Item_Top_p2) .ret))))
def s_heap_Heap_law09_Item_Top : SFn := ⟨1, [.cell 2 (some 2), .t 3], s_heap_Heap_law09_Item_Top_p3⟩
def s_heap_Heap_law09_Item_first_p0 : SCode := (.region true [⟨some 9, .mv (.t 0), none, true⟩,
  ⟨some 10, .nilck (.t 9), none, true⟩,
  ⟨some 11, .faddr 1 (.t 10), none, true⟩,
  ⟨some 12, .load none (.t 11), none, true⟩,
  ⟨some 13, .mv (.t 1), none, true⟩,
  ⟨some 14, .iaddr 3 (.t 12) (.t 13), none, true⟩,
  ⟨some 15, .load (some 3) (.t 14), none, true⟩,
  ⟨some 16, .mv (.t 0), none, true⟩,
  ⟨some 17, .nilck (.t 16), none, true⟩,
  ⟨some 18, .faddr 1 (.t 17), none, true⟩,
  ⟨some 19, .load none (.t 18), none, true⟩,
  ⟨some 20, .mv (.t 2), none, true⟩,
  ⟨some 21, .iaddr 3 (.t 19) (.t 20), none, true⟩,
  ⟨some 22, .load (some 3) (.t 21), none, true⟩,
  ⟨some 7, .alloc true [(.int .i64 0), (.int .i64 0), (.int .i64 0)], none, true⟩,
  ⟨some 8, .alloc true [(.int .i64 0), (.int .i64 0), (.int .i64 0)], none, true⟩,
  ⟨none, .store 3 [(.t 18), (.t 21)] (.t 7) (.t 15), none, false⟩,
  ⟨none, .store 3 [] (.t 8) (.t 22), none, false⟩])
def s_heap_Heap_law09_Item_first_p1 : SCode := (.region true [⟨some 24, .mv (.t 0), none, true⟩,
  ⟨some 25, .nilck (.t 24), none, true⟩,
  ⟨some 26, .faddr 0 (.t 25), none, true⟩,
  ⟨some 27, .load none (.t 26), none, true⟩,
  ⟨some 28, .faddr 0 (.t 7), none, true⟩,
  ⟨some 29, .load (some 2) (.t 28), none, true⟩,
  ⟨some 30, .faddr 0 (.t 8), none, true⟩,
  ⟨some 31, .load (some 2) (.t 30), none, true⟩,
  ⟨some 32, .callv (.t 27) [(.t 29), (.t 31)], none, false⟩,
  ⟨some 23, .mv (.t 32), none, false⟩])
def s_heap_Heap_law09_Item_first_p2 : SCode := (.region true [⟨some 34, .mv (.t 0), none, true⟩,
  ⟨some 35, .nilck (.t 34), none, true⟩,
  ⟨some 36, .faddr 0 (.t 35), none, true⟩,
  ⟨some 37, .load none (.t 36), none, true⟩,
  ⟨some 38, .faddr 0 (.t 8), none, true⟩,
  ⟨some 39, .load (some 2) (.t 38), none, true⟩,
  ⟨some 40, .faddr 0 (.t 7), none, true⟩,
  ⟨some 41, .load (some 2) (.t 40), none, true⟩,
  ⟨some 42, .callv (.t 37) [(.t 39), (.t 41)], none, false⟩,
  ⟨some 33, .mv (.t 42), none, false⟩])
def s_heap_Heap_law09_Item_first_p3 : SCode := (.cond (.t 23) (.seq (.region false [⟨some 6, .mv (.v (.bool true)), none, false⟩]) .ret) (.seq (.kp [7, 8, 33] s_heap_Heap_law09_Item_first_p2) (.cond (.t 33) (.seq (.region false [⟨some 6, .mv (.v (.bool false)), none, false⟩]) .ret) .skip)))
def s_heap_Heap_law09_Item_first_p4 : SCode := (.region false [⟨some 43, .faddr 2 (.t 7), none, false⟩,
  ⟨some 44, .load none (.t 43), none, false⟩,
  ⟨some 45, .faddr 2 (.t 8), none, false⟩,
  ⟨some 46, .load none (.t 45), none, false⟩,
  ⟨some 47, .bin .lss (.t 44) (.t 46), none, false⟩,
  ⟨some 6, .mv (.t 47), none, false⟩])
def s_heap_Heap_law09_Item_first_p5 : SCode := (.seq (.region false [⟨some 6, .mv (.v (.bool false)), none, false⟩]) (.seq (.kp [0, 7, 8] s_heap_Heap_law09_Item_first_p0) (.seq (.kp [7, 8] (.block 0 (.seq (.kp [0, 7, 8, 23] s_heap_Heap_law09_Item_first_p1) s_heap_Heap_law09_Item_first_p3))) (.seq (.kp [6] s_heap_Heap_law09_Item_first_p4) .ret))))
def s_heap_Heap_law09_Item_first : SFn := ⟨3, [.t 6], s_heap_Heap_law09_Item_first_p5⟩
def s_heap_Heap_law09_Item_Pop_p0 : SCode := (.region false [⟨some 10, .mv (.t 0), none, false⟩,
  ⟨some 11, .call f_heap_Heap_law09_Item_Top [(.t 10)], none, false⟩,
  ⟨some 9, .mv (.t 11), none, false⟩,
  ⟨some 12, .ext (.t 9) 0, none, false⟩,
  ⟨some 13, .ext (.t 9) 1, none, false⟩,
  ⟨some 4, .alloc true [(.int .i64 0), (.int .i64 0)], none, false⟩,
  ⟨none, .store 2 [] (.t 4) (.t 12), none, false⟩,
  ⟨some 5, .mv (.t 13), none, false⟩])
def s_heap_Heap_law09_Item_Pop_p1 : SCode := (.cond (.t 15) (.seq (.region false [⟨some 16, .load (some 2) (.t 4), none, false⟩,
  ⟨none, .store 2 [] (.t 2) (.t 16), none, false⟩,
  ⟨some 3, .mv (.v (.bool false)), none, false⟩]) .ret) .skip)
def s_heap_Heap_law09_Item_Pop_p2 : SCode := (.region false [⟨some 17, .mv (.t 0), none, false⟩,
  ⟨some 18, .nilck (.t 17), none, false⟩,
  ⟨some 19, .faddr 1 (.t 18), none, false⟩,
  ⟨some 20, .load none (.t 19), none, false⟩,
  ⟨some 21, .len (.t 20), none, false⟩,
  ⟨some 22, .bin .sub (.t 21) (.v (.int .i64 1)), none, false⟩,
  ⟨some 6, .mv (.t 22), none, false⟩])
def s_heap_Heap_law09_Item_Pop_p3 : SCode := (.region true [⟨some 23, .mv (.t 0), none, true⟩,
  ⟨some 24, .nilck (.t 23), none, true⟩,
  ⟨some 25, .faddr 1 (.t 24), none, true⟩,
  ⟨some 26, .load none (.t 25), none, true⟩,
  ⟨some 27, .mv (.t 0), none, true⟩,
  ⟨some 28, .nilck (.t 27), none, true⟩,
  ⟨some 29, .faddr 1 (.t 28), none, true⟩,
  ⟨some 30, .load none (.t 29), none, true⟩,
  ⟨some 31, .mv (.t 6), none, true⟩,
  ⟨some 32, .iaddr 3 (.t 30) (.t 31), none, true⟩,
  ⟨some 33, .load (some 3) (.t 32), none, true⟩,
  ⟨some 34, .iaddr 3 (.t 26) (.v (.int .i64 0)), none, false⟩,
  ⟨none, .store 3 [] (.t 34) (.t 33), none, false⟩])
def s_heap_Heap_law09_Item_Pop_p4 : SCode := (.region false [⟨some 35, .mv (.t 0), none, false⟩,
  ⟨some 36, .mv (.t 0), none, false⟩,
  ⟨some 37, .nilck (.t 36), none, false⟩,
  ⟨some 38, .faddr 1 (.t 37), none, false⟩,
  ⟨some 39, .load none (.t 38), none, false⟩,
  ⟨some 40, .mv (.t 6), none, false⟩,
  ⟨some 41, .slice 3 (.t 39) none (some (.t 40)) none, none, false⟩,
  ⟨some 42, .nilck (.t 35), none, false⟩,
  ⟨some 43, .faddr 1 (.t 42), none, false⟩,
  ⟨none, .store 1 [] (.t 43) (.t 41), none, false⟩])
def s_heap_Heap_law09_Item_Pop_p5 : SCode := (.region false [⟨some 44, .mv (.t 7), none, false⟩,
  ⟨some 45, .bin .mul (.v (.int .i64 2)) (.t 44), none, false⟩,
  ⟨some 46, .bin .add (.t 45) (.v (.int .i64 1)), none, false⟩,
  ⟨some 8, .mv (.t 46), none, false⟩])
def s_heap_Heap_law09_Item_Pop_p6 : SCode := (.region false [⟨some 47, .mv (.t 8), none, false⟩,
  ⟨some 48, .bin .add (.t 47) (.v (.int .i64 1)), none, false⟩,
  ⟨some 49, .mv (.t 6), none, false⟩,
  ⟨some 50, .bin .lss (.t 48) (.t 49), none, false⟩,
  ⟨some 51, .mv (.t 50), none, false⟩,
  ⟨some 52, .mv (.t 0), (some (51, true)), false⟩,
  ⟨some 53, .mv (.t 8), (some (51, true)), false⟩,
  ⟨some 54, .bin .add (.t 53) (.v (.int .i64 1)), (some (51, true)), false⟩,
  ⟨some 55, .mv (.t 8), (some (51, true)), false⟩,
  ⟨some 56, .call f_heap_Heap_law09_Item_first [(.t 52), (.t 54), (.t 55)], (some (51, true)), false⟩,
  ⟨some 57, .pick (.t 51) (.t 56) (.v (.bool false)), none, false⟩])
def s_heap_Heap_law09_Item_Pop_p7 : SCode := (.seq (.kp [0, 2, 4, 6, 7, 8, 57] s_heap_Heap_law09_Item_Pop_p6) (.cond (.t 57) (.region false [⟨some 58, .mv (.t 8), none, false⟩,
  ⟨some 59, .bin .add (.t 58) (.v (.int .i64 1)), none, false⟩,
  ⟨some 8, .mv (.t 59), none, false⟩]) .skip))
def s_heap_Heap_law09_Item_Pop_p8 : SCode := (.region false [⟨some 60, .mv (.t 8), none, false⟩,
  ⟨some 61, .mv (.t 6), none, false⟩,
  ⟨some 62, .bin .geq (.t 60) (.t 61), none, false⟩,
  ⟨some 63, .mv (.t 62), none, false⟩,
  ⟨some 64, .mv (.t 0), (some (63, false)), false⟩,
  ⟨some 65, .mv (.t 8), (some (63, false)), false⟩,
  ⟨some 66, .mv (.t 7), (some (63, false)), false⟩,
  ⟨some 67, .call f_heap_Heap_law09_Item_first [(.t 64), (.t 65), (.t 66)], (some (63, false)), false⟩,
  ⟨some 68, .un .not (.t 67), (some (63, false)), false⟩,
  ⟨some 69, .pick (.t 63) (.v (.bool true)) (.t 68), none, false⟩])
def s_heap_Heap_law09_Item_Pop_p9 : SCode := (.cond (.t 69) (.seq (.region false [⟨some 70, .load (some 2) (.t 4), none, false⟩,
  ⟨none, .store 2 [] (.t 2) (.t 70), none, false⟩,
  ⟨some 3, .mv (.v (.bool true)), none, false⟩]) .ret) .skip)
def s_heap_Heap_law09_Item_Pop_p10 : SCode := (.region true [⟨some 71, .mv (.t 0), none, true⟩,
  ⟨some 72, .nilck (.t 71), none, true⟩,
  ⟨some 73, .faddr 1 (.t 72), none, true⟩,
  ⟨some 74, .load none (.t 73), none, true⟩,
  ⟨some 75, .mv (.t 7), none, true⟩,
  ⟨some 76, .mv (.t 0), none, true⟩,
  ⟨some 77, .nilck (.t 76), none, true⟩,
  ⟨some 78, .faddr 1 (.t 77), none, true⟩,
  ⟨some 79, .load none (.t 78), none, true⟩,
  ⟨some 80, .mv (.t 8), none, true⟩,
  ⟨some 81, .mv (.t 0), none, true⟩,
  ⟨some 82, .nilck (.t 81), none, true⟩,
  ⟨some 83, .faddr 1 (.t 82), none, true⟩,
  ⟨some 84, .load none (.t 83), none, true⟩,
  ⟨some 85, .mv (.t 8), none, true⟩,
  ⟨some 86, .iaddr 3 (.t 84) (.t 85), none, true⟩,
  ⟨some 87, .load (some 3) (.t 86), none, true⟩,
  ⟨some 88, .mv (.t 0), none, true⟩,
  ⟨some 89, .nilck (.t 88), none, true⟩,
  ⟨some 90, .faddr 1 (.t 89), none, true⟩,
  ⟨some 91, .load none (.t 90), none, true⟩,
  ⟨some 92, .mv (.t 7), none, true⟩,
  ⟨some 93, .iaddr 3 (.t 91) (.t 92), none, true⟩,
  ⟨some 94, .load (some 3) (.t 93), none, true⟩,
  ⟨some 95, .iaddr 3 (.t 74) (.t 75), none, false⟩,
  ⟨none, .store 3 [] (.t 95) (.t 87), none, false⟩,
  ⟨some 96, .iaddr 3 (.t 79) (.t 80), none, false⟩,
  ⟨none, .store 3 [] (.t 96) (.t 94), none, false⟩])
def s_heap_Heap_law09_Item_Pop_p11 : SCode := (.seq (.kp [0, 2, 4, 6, 7, 8] (.seq (.kp [0, 2, 4, 6, 7, 8, 69] s_heap_Heap_law09_Item_Pop_p8) s_heap_Heap_law09_Item_Pop_p9)) (.seq (.kp [0, 2, 4, 6, 8] s_heap_Heap_law09_Item_Pop_p10) (.region false [⟨some 97, .mv (.t 8), none, false⟩,
  ⟨some 7, .mv (.t 97), none, false⟩])))
def s_heap_Heap_law09_Item_Pop_p12 : SCode := (.block 1 (.seq s_heap_Heap_law09_Item_Pop_p5 (.seq (.kp [0, 2, 4, 6, 7, 8] s_heap_Heap_law09_Item_Pop_p7) s_heap_Heap_law09_Item_Pop_p11)))
def s_heap_Heap_law09_Item_Pop_p13 : SCode := (.seq (.kp [0, 2, 4, 6] s_heap_Heap_law09_Item_Pop_p3) (.seq (.kp [0, 2, 4, 6] s_heap_Heap_law09_Item_Pop_p4) (.seq (.kp [0, 2, 4, 6, 7] (.region false [⟨some 7, .mv (.v (.int .i64 0)), none, false⟩])) (.block 0 (.loop (some [0, 2, 4, 6, 7]) s_heap_Heap_law09_Item_Pop_p12)))))
def s_heap_Heap_law09_Item_Pop_p14 : SCode := (.seq (.kp [0, 2, 4, 5] s_heap_Heap_law09_Item_Pop_p0) (.seq (.kp [0, 2, 4] (.seq (.region false [⟨some 14, .mv (.t 5), none, false⟩,
  ⟨some 15, .un .not (.t 14), none, false⟩]) s_heap_Heap_law09_Item_Pop_p1)) (.seq (.kp [0, 2, 4, 6] s_heap_Heap_law09_Item_Pop_p2) s_heap_Heap_law09_Item_Pop_p13)))
def s_heap_Heap_law09_Item_Pop : SFn := ⟨1, [.cell 2 (some 2), .t 3], (.seq (.region false [⟨some 2, .alloc true [(.int .i64 0), (.int .i64 0)], none, false⟩,
  ⟨some 3, .mv (.v (.bool false)), none, false⟩]) s_heap_Heap_law09_Item_Pop_p14)⟩
def s_heap_Heap_law09_Item_Drain_1_p0 : SCode := (.region false [⟨some 6, .load none (.t 1), none, false⟩,
  ⟨some 7, .call f_heap_Heap_law09_Item_Pop [(.t 6)], none, false⟩,
  ⟨some 5, .mv (.t 7), none, false⟩,
  ⟨some 8, .ext (.t 5) 0, none, false⟩,
  ⟨some 9, .ext (.t 5) 1, none, false⟩,
  ⟨some 3, .alloc true [(.int .i64 0), (.int .i64 0)], none, false⟩,
  ⟨none, .store 2 [] (.t 3) (.t 8), none, false⟩,
  ⟨some 4, .mv (.t 9), none, false⟩])
def s_heap_Heap_law09_Item_Drain_1_p1 : SCode := (.region false [⟨some 10, .mv (.t 4), none, false⟩,
  ⟨some 11, .un .not (.t 10), none, false⟩,
  ⟨some 12, .mv (.t 11), none, false⟩,
  ⟨some 13, .mv (.t 0), (some (12, false)), false⟩,
  ⟨some 14, .load (some 2) (.t 3), (some (12, false)), false⟩,
  ⟨some 15, .callv (.t 13) [(.t 14)], (some (12, false)), false⟩,
  ⟨some 16, .un .not (.t 15), (some (12, false)), false⟩,
  ⟨some 17, .pick (.t 12) (.v (.bool true)) (.t 16), none, false⟩])
def s_heap_Heap_law09_Item_Drain_1_p2 : SCode := (.block 1 (.seq (.kp [0, 1, 3, 4] s_heap_Heap_law09_Item_Drain_1_p0) (.seq (.kp [0, 1, 17] s_heap_Heap_law09_Item_Drain_1_p1) (.cond (.t 17) .ret .skip))))
def s_heap_Heap_law09_Item_Drain_1 : SFn := ⟨2, [], (.block 0 (.loop (some [0, 1]) s_heap_Heap_law09_Item_Drain_1_p2))⟩
def s_heap_Heap_law09_Item_Drain_p0 : SCode := (.seq (.region false [⟨some 1, .box false 1 (.t 0), none, false⟩,
  ⟨some 2, .mv (.v .nilf), none, false⟩]) (.seq (.region false [⟨some 3, .mkfn f_heap_Heap_law09_Item_Drain_1 [] [(.t 1)], none, false⟩,
  ⟨some 2, .mv (.t 3), none, false⟩]) .ret))
def s_heap_Heap_law09_Item_Drain : SFn := ⟨1, [.t 2], s_heap_Heap_law09_Item_Drain_p0⟩
def s_heap_Heap_law09_Item_Push_p0 : SCode := (.region false [⟨some 5, .mv (.t 0), none, false⟩,
  ⟨some 6, .eq false false [.ptr] (.t 5) (.v .nilp), none, false⟩,
  ⟨some 7, .mv (.t 6), none, false⟩,
  ⟨some 8, .mv (.t 0), (some (7, false)), false⟩,
  ⟨some 9, .nilck (.t 8), (some (7, false)), false⟩,
  ⟨some 10, .faddr 0 (.t 9), (some (7, false)), false⟩,
  ⟨some 11, .load none (.t 10), (some (7, false)), false⟩,
  ⟨some 12, .eq false false [.func] (.t 11) (.v .nilf), (some (7, false)), false⟩,
  ⟨some 13, .pick (.t 7) (.v (.bool true)) (.t 12), none, false⟩])
def s_heap_Heap_law09_Item_Push_p1 : SCode := (.region true [⟨some 14, .mv (.t 0), none, true⟩,
  ⟨some 15, .mv (.t 0), none, true⟩,
  ⟨some 16, .nilck (.t 15), none, true⟩,
  ⟨some 17, .faddr 1 (.t 16), none, true⟩,
  ⟨some 18, .load none (.t 17), none, true⟩,
  ⟨some 19, .load (some 2) (.t 3), none, true⟩,
  ⟨some 20, .mv (.t 0), none, true⟩,
  ⟨some 21, .nilck (.t 20), none, true⟩,
  ⟨some 22, .faddr 2 (.t 21), none, true⟩,
  ⟨some 23, .load none (.t 22), none, true⟩,
  ⟨some 24, .build [(.int .i64 0), (.int .i64 0), (.int .i64 0)] [(0, 2, (.t 19)), (2, 1, (.t 23))], none, true⟩,
  ⟨some 25, .bslice [(.int .i64 0), (.int .i64 0), (.int .i64 0)] 1 3 [(0, 3, (.t 24))], none, true⟩,
  ⟨some 26, .append 3 24 [(.int .i64 0), (.int .i64 0), (.int .i64 0)] [] (.t 18) (.t 25), none, false⟩,
  ⟨some 27, .nilck (.t 14), none, false⟩,
  ⟨some 28, .faddr 1 (.t 27), none, false⟩,
  ⟨none, .store 1 [] (.t 28) (.t 26), none, false⟩])
def s_heap_Heap_law09_Item_Push_p2 : SCode := (.region false [⟨some 29, .mv (.t 0), none, false⟩,
  ⟨some 30, .nilck (.t 29), none, false⟩,
  ⟨some 31, .faddr 2 (.t 30), none, false⟩,
  ⟨some 32, .load none (.t 31), none, false⟩,
  ⟨some 33, .bin .add (.t 32) (.v (.int .i64 1)), none, false⟩,
  ⟨some 34, .nilck (.t 29), none, false⟩,
  ⟨some 35, .faddr 2 (.t 34), none, false⟩,
  ⟨none, .store 1 [] (.t 35) (.t 33), none, false⟩])
def s_heap_Heap_law09_Item_Push_p3 : SCode := (.region false [⟨some 36, .mv (.t 0), none, false⟩,
  ⟨some 37, .nilck (.t 36), none, false⟩,
  ⟨some 38, .faddr 1 (.t 37), none, false⟩,
  ⟨some 39, .load none (.t 38), none, false⟩,
  ⟨some 40, .len (.t 39), none, false⟩,
  ⟨some 41, .bin .sub (.t 40) (.v (.int .i64 1)), none, false⟩,
  ⟨some 4, .mv (.t 41), none, false⟩])
def s_heap_Heap_law09_Item_Push_p4 : SCode := (.region false [⟨some 42, .mv (.t 4), none, false⟩,
  ⟨some 43, .bin .gtr (.t 42) (.v (.int .i64 0)), none, false⟩,
  ⟨some 44, .mv (.t 43), none, false⟩,
  ⟨some 45, .mv (.t 0), (some (44, true)), false⟩,
  ⟨some 46, .mv (.t 4), (some (44, true)), false⟩,
  ⟨some 47, .mv (.t 4), (some (44, true)), false⟩,
  ⟨some 48, .bin .sub (.t 47) (.v (.int .i64 1)), (some (44, true)), false⟩,
  ⟨some 49, .bin .quo (.t 48) (.v (.int .i64 2)), (some (44, true)), false⟩,
  ⟨some 50, .call f_heap_Heap_law09_Item_first [(.t 45), (.t 46), (.t 49)], (some (44, true)), false⟩,
  ⟨some 51, .pick (.t 44) (.t 50) (.v (.bool false)), none, false⟩])
def s_heap_Heap_law09_Item_Push_p5 : SCode := (.region true [⟨some 55, .mv (.t 0), none, true⟩,
  ⟨some 56, .nilck (.t 55), none, true⟩,
  ⟨some 57, .faddr 1 (.t 56), none, true⟩,
  ⟨some 58, .load none (.t 57), none, true⟩,
  ⟨some 59, .mv (.t 4), none, true⟩,
  ⟨some 60, .mv (.t 0), none, true⟩,
  ⟨some 61, .nilck (.t 60), none, true⟩,
  ⟨some 62, .faddr 1 (.t 61), none, true⟩,
  ⟨some 63, .load none (.t 62), none, true⟩,
  ⟨some 64, .mv (.t 4), none, true⟩,
  ⟨some 65, .bin .sub (.t 64) (.v (.int .i64 1)), none, true⟩,
  ⟨some 66, .bin .quo (.t 65) (.v (.int .i64 2)), none, true⟩,
  ⟨some 67, .mv (.t 0), none, true⟩,
  ⟨some 68, .nilck (.t 67), none, true⟩,
  ⟨some 69, .faddr 1 (.t 68), none, true⟩,
  ⟨some 70, .load none (.t 69), none, true⟩,
  ⟨some 71, .mv (.t 4), none, true⟩,
  ⟨some 72, .bin .sub (.t 71) (.v (.int .i64 1)), none, true⟩,
  ⟨some 73, .bin .quo (.t 72) (.v (.int .i64 2)), none, true⟩,
  ⟨some 74, .iaddr 3 (.t 70) (.t 73), none, true⟩,
  ⟨some 75, .load (some 3) (.t 74), none, true⟩,
  ⟨some 76, .mv (.t 0), none, true⟩,
  ⟨some 77, .nilck (.t 76), none, true⟩,
  ⟨some 78, .faddr 1 (.t 77), none, true⟩,
  ⟨some 79, .load none (.t 78), none, true⟩,
  ⟨some 80, .mv (.t 4), none, true⟩,
  ⟨some 81, .iaddr 3 (.t 79) (.t 80), none, true⟩,
  ⟨some 82, .load (some 3) (.t 81), none, true⟩,
  ⟨some 83, .iaddr 3 (.t 58) (.t 59), none, false⟩,
  ⟨none, .store 3 [] (.t 83) (.t 75), none, false⟩,
  ⟨some 84, .iaddr 3 (.t 63) (.t 66), none, false⟩,
  ⟨none, .store 3 [] (.t 84) (.t 82), none, false⟩])
def s_heap_Heap_law09_Item_Push_p6 : SCode := (.region false [⟨some 52, .mv (.t 4), none, false⟩,
  ⟨some 53, .bin .sub (.t 52) (.v (.int .i64 1)), none, false⟩,
  ⟨some 54, .bin .quo (.t 53) (.v (.int .i64 2)), none, false⟩,
  ⟨some 4, .mv (.t 54), none, false⟩])
def s_heap_Heap_law09_Item_Push_p7 : SCode := (.seq (.kp [0, 4] (.seq (.kp [0, 4, 51] s_heap_Heap_law09_Item_Push_p4) (.cond (.t 51) .skip (.exit 0)))) (.seq (.kp [0, 4] (.block 1 s_heap_Heap_law09_Item_Push_p5)) s_heap_Heap_law09_Item_Push_p6))
def s_heap_Heap_law09_Item_Push_p8 : SCode := (.seq (.kp [0, 3] (.seq (.kp [0, 3, 13] s_heap_Heap_law09_Item_Push_p0) (.cond (.t 13) .ret .skip))) (.seq (.kp [0] s_heap_Heap_law09_Item_Push_p1) (.seq (.kp [0] s_heap_Heap_law09_Item_Push_p2) (.seq (.kp [0, 4] s_heap_Heap_law09_Item_Push_p3) (.block 0 (.loop (some [0, 4]) s_heap_Heap_law09_Item_Push_p7))))))
def s_heap_Heap_law09_Item_Push : SFn := ⟨2, [], (.seq (.region false [⟨some 3, .box true 2 (.t 1), none, false⟩]) s_heap_Heap_law09_Item_Push_p8)⟩
def s_heap_New_law09_Item_p0 : SCode := (.seq (.region false [⟨some 3, .mv (.t 0), none, false⟩,
  ⟨some 4, .eq false false [.func] (.t 3) (.v .nilf), none, false⟩]) (.cond (.t 4) (.seq (.region false [⟨some 2, .mv (.v .nilp), none, false⟩]) .ret) .skip))
def s_heap_New_law09_Item_p1 : SCode := (.region false [⟨some 5, .mv (.t 0), none, false⟩,
  ⟨some 6, .build [.nilf, .nils, (.int .i64 0)] [(0, 1, (.t 5))], none, false⟩,
  ⟨some 7, .box false 3 (.t 6), none, false⟩,
  ⟨some 2, .mv (.t 7), none, false⟩])
def s_heap_New_law09_Item : SFn := ⟨1, [.t 2], (.seq (.region false [⟨some 2, .mv (.v .nilp), none, false⟩]) (.seq (.kp [0] s_heap_New_law09_Item_p0) (.seq s_heap_New_law09_Item_p1 .ret)))⟩
def s_law09_ahead_p0 : SCode := (.region false [⟨some 5, .faddr 0 (.t 2), none, false⟩,
  ⟨some 6, .load none (.t 5), none, false⟩,
  ⟨some 7, .bin .shr (.t 6) (.v (.int .u64 2)), none, false⟩,
  ⟨some 8, .faddr 0 (.t 3), none, false⟩,
  ⟨some 9, .load none (.t 8), none, false⟩,
  ⟨some 10, .bin .shr (.t 9) (.v (.int .u64 2)), none, false⟩,
  ⟨some 11, .bin .lss (.t 7) (.t 10), none, false⟩,
  ⟨some 4, .mv (.t 11), none, false⟩])
def s_law09_ahead_p1 : SCode := (.seq (.region false [⟨some 2, .box true 2 (.t 0), none, false⟩,
  ⟨some 3, .box true 2 (.t 1), none, false⟩,
  ⟨some 4, .mv (.v (.bool false)), none, false⟩]) (.seq (.kp [4] s_law09_ahead_p0) .ret))
def s_law09_ahead : SFn := ⟨2, [.t 4], s_law09_ahead_p1⟩
def s_law09_awake_p0 : SCode := (.region false [⟨some 5, .mv (.t 1), none, false⟩,
  ⟨some 6, .build [(.int .i64 0), (.int .i64 0)] [(0, 1, (.v (.int .i64 9)))], none, false⟩,
  ⟨some 7, .call f_heap_Heap_law09_Item_Push [(.t 5), (.t 6)], none, false⟩])
def s_law09_awake_p1 : SCode := (.region false [⟨some 8, .mv (.t 1), none, false⟩,
  ⟨some 9, .build [(.int .i64 0), (.int .i64 0)] [(0, 1, (.v (.int .i64 1)))], none, false⟩,
  ⟨some 10, .call f_heap_Heap_law09_Item_Push [(.t 8), (.t 9)], none, false⟩])
def s_law09_awake_p2 : SCode := (.region false [⟨some 12, .mv (.t 1), none, false⟩,
  ⟨some 13, .call f_heap_Heap_law09_Item_Pop [(.t 12)], none, false⟩,
  ⟨some 11, .mv (.t 13), none, false⟩,
  ⟨some 14, .ext (.t 11) 0, none, false⟩,
  ⟨some 15, .ext (.t 11) 1, none, false⟩,
  ⟨some 2, .alloc true [(.int .i64 0), (.int .i64 0)], none, false⟩,
  ⟨none, .store 2 [] (.t 2) (.t 14), none, false⟩,
  ⟨some 3, .mv (.t 15), none, false⟩])
def s_law09_awake_p3 : SCode := (.region false [⟨some 16, .mv (.t 3), none, false⟩,
  ⟨some 17, .mv (.t 16), none, false⟩,
  ⟨some 18, .faddr 0 (.t 2), (some (17, true)), false⟩,
  ⟨some 19, .load none (.t 18), (some (17, true)), false⟩,
  ⟨some 20, .bin .eql (.t 19) (.v (.int .i64 1)), (some (17, true)), false⟩,
  ⟨some 21, .pick (.t 17) (.t 20) (.v (.bool false)), none, false⟩,
  ⟨some 22, .mv (.t 21), none, false⟩,
  ⟨some 23, .mv (.t 1), (some (22, true)), false⟩,
  ⟨some 24, .call f_heap_Heap_law09_Item_Len [(.t 23)], (some (22, true)), false⟩,
  ⟨some 25, .bin .eql (.t 24) (.v (.int .i64 1)), (some (22, true)), false⟩,
  ⟨some 26, .pick (.t 22) (.t 25) (.v (.bool false)), none, false⟩,
  ⟨some 0, .mv (.t 26), none, false⟩])
def s_law09_awake_p4 : SCode := (.seq (.region false [⟨some 4, .call f_heap_New_law09_Item [(.v (.fn f_law09_ahead [] []))], none, false⟩,
  ⟨some 1, .mv (.t 4), none, false⟩]) (.seq s_law09_awake_p0 (.seq s_law09_awake_p1 (.seq (.kp [1, 2, 3] s_law09_awake_p2) (.seq (.kp [0] s_law09_awake_p3) .ret)))))
def s_law09_awake : SFn := ⟨0, [.t 0], (.seq (.region false [⟨some 0, .mv (.v (.bool false)), none, false⟩]) s_law09_awake_p4)⟩
def s_law09_HeapDrains_p0 : SCode := (.seq (.region false [⟨some 16, .call f_law09_awake [], none, false⟩,
  ⟨some 17, .un .not (.t 16), none, false⟩]) (.cond (.t 17) (.seq (.region false [⟨none, .store 1 [] (.t 4) (.v (.bool false)), none, false⟩]) .ret) .skip))
def s_law09_HeapDrains_p1 : SCode := (.region false [⟨some 18, .call f_heap_New_law09_Item [(.v (.fn f_law09_ahead [] []))], none, false⟩,
  ⟨some 19, .call f_heap_New_law09_Item [(.v (.fn f_law09_ahead [] []))], none, false⟩,
  ⟨some 6, .alloc true [.nilp], none, false⟩,
  ⟨some 5, .mv (.t 18), none, false⟩,
  ⟨none, .store 1 [] (.t 6) (.t 19), none, false⟩])
def s_law09_HeapDrains_p2 : SCode := (.region false [⟨some 20, .mv (.t 7), none, false⟩,
  ⟨some 21, .mv (.t 0), none, false⟩,
  ⟨some 22, .len (.t 21), none, false⟩,
  ⟨some 23, .bin .lss (.t 20) (.t 22), none, false⟩])
def s_law09_HeapDrains_p3 : SCode := (.region false [⟨some 26, .mv (.t 5), none, false⟩,
  ⟨some 27, .mv (.t 0), none, false⟩,
  ⟨some 28, .mv (.t 7), none, false⟩,
  ⟨some 29, .iaddr 1 (.t 27) (.t 28), none, false⟩,
  ⟨some 30, .load none (.t 29), none, false⟩,
  ⟨some 31, .mv (.t 7), none, false⟩,
  ⟨some 32, .build [(.int .i64 0), (.int .i64 0)] [(0, 1, (.t 30)), (1, 1, (.t 31))], none, false⟩,
  ⟨some 33, .call f_heap_Heap_law09_Item_Push [(.t 26), (.t 32)], none, false⟩])
def s_law09_HeapDrains_p4 : SCode := (.region true [⟨some 34, .load none (.t 6), none, true⟩,
  ⟨some 35, .mv (.t 0), none, true⟩,
  ⟨some 36, .mv (.t 7), none, true⟩,
  ⟨some 37, .iaddr 1 (.t 35) (.t 36), none, true⟩,
  ⟨some 38, .load none (.t 37), none, true⟩,
  ⟨some 39, .mv (.t 7), none, true⟩,
  ⟨some 40, .build [(.int .i64 0), (.int .i64 0)] [(0, 1, (.t 38)), (1, 1, (.t 39))], none, true⟩,
  ⟨some 41, .call f_heap_Heap_law09_Item_Push [(.t 34), (.t 40)], none, false⟩])
def s_law09_HeapDrains_p5 : SCode := (.seq (.kp [0, 3, 4, 5, 6, 7] (.block 1 (.seq (.kp [0, 3, 4, 5, 6, 7] s_law09_HeapDrains_p3) s_law09_HeapDrains_p4))) (.region false [⟨some 24, .mv (.t 7), none, false⟩,
  ⟨some 25, .bin .add (.t 24) (.v (.int .i64 1)), none, false⟩,
  ⟨some 7, .mv (.t 25), none, false⟩]))
def s_law09_HeapDrains_p6 : SCode := (.seq (.kp [0, 3, 4, 5, 6, 7] (.seq s_law09_HeapDrains_p2 (.cond (.t 23) .skip (.exit 0)))) s_law09_HeapDrains_p5)
def s_law09_HeapDrains_p7 : SCode := (.region false [⟨some 9, .alloc true [(.int .i64 0), (.int .i64 0)], none, false⟩,
  ⟨none, .store 2 [] (.t 9) (.t 44), none, false⟩])
def s_law09_HeapDrains_p8 : SCode := (.region false [⟨some 46, .load none (.t 6), none, false⟩,
  ⟨some 47, .call f_heap_Heap_law09_Item_Pop [(.t 46)], none, false⟩,
  ⟨some 45, .mv (.t 47), none, false⟩,
  ⟨some 48, .ext (.t 45) 0, none, false⟩,
  ⟨some 49, .ext (.t 45) 1, none, false⟩,
  ⟨some 10, .alloc true [(.int .i64 0), (.int .i64 0)], none, false⟩,
  ⟨none, .store 2 [] (.t 10) (.t 48), none, false⟩,
  ⟨some 11, .mv (.t 49), none, false⟩])
def s_law09_HeapDrains_p9 : SCode := (.region false [⟨some 50, .mv (.t 11), none, false⟩,
  ⟨some 51, .un .not (.t 50), none, false⟩,
  ⟨some 52, .mv (.t 51), none, false⟩,
  ⟨some 53, .load (some 2) (.t 9), (some (52, false)), false⟩,
  ⟨some 54, .load (some 2) (.t 10), (some (52, false)), false⟩,
  ⟨some 55, .eq true true [.int, .int] (.t 53) (.t 54), (some (52, false)), false⟩,
  ⟨some 56, .pick (.t 52) (.v (.bool true)) (.t 55), none, false⟩])
def s_law09_HeapDrains_p10 : SCode := (.seq (.region false [⟨some 59, .load none (.t 8), none, false⟩,
  ⟨some 60, .load none (.t 3), none, false⟩,
  ⟨some 61, .bin .geq (.t 59) (.t 60), none, false⟩]) (.cond (.t 61) (.exit 2) .skip))
def s_law09_HeapDrains_p11 : SCode := (.seq (.region false [⟨some 57, .load none (.t 8), none, false⟩,
  ⟨some 58, .bin .add (.t 57) (.v (.int .i64 1)), none, false⟩,
  ⟨none, .store 1 [] (.t 8) (.t 58), none, false⟩]) s_law09_HeapDrains_p10)
def s_law09_HeapDrains_p12 : SCode := (.seq (.kp [3, 4, 5, 6, 8] (.seq (.kp [3, 4, 5, 6, 8, 56] s_law09_HeapDrains_p9) (.cond (.t 56) (.seq (.region false [⟨none, .store 1 [] (.t 4) (.v (.bool false)), none, false⟩]) .ret) .skip))) s_law09_HeapDrains_p11)
def s_law09_HeapDrains_p13 : SCode := (.block 3 (.seq (.kp [3, 4, 5, 6, 8, 9, 10, 11] s_law09_HeapDrains_p8) s_law09_HeapDrains_p12))
def s_law09_HeapDrains_p14 : SCode := (.seq (.kp [3, 4, 5, 6, 8, 43] (.region false [⟨some 42, .mv (.t 5), none, false⟩,
  ⟨some 43, .call f_heap_Heap_law09_Item_Drain [(.t 42)], none, false⟩])) (.block 2 (.rangef (.t 43) [44] s_law09_HeapDrains_p7 s_law09_HeapDrains_p13)))
def s_law09_HeapDrains_p15 : SCode := (.seq (.region false [⟨some 62, .load none (.t 6), none, false⟩,
  ⟨some 63, .call f_heap_Heap_law09_Item_Len [(.t 62)], none, false⟩,
  ⟨some 64, .bin .gtr (.t 63) (.v (.int .i64 0)), none, false⟩]) (.cond (.t 64) .skip (.exit 4)))
def s_law09_HeapDrains_p16 : SCode := (.region false [⟨some 66, .mv (.t 5), none, false⟩,
  ⟨some 67, .call f_heap_Heap_law09_Item_Pop [(.t 66)], none, false⟩,
  ⟨some 65, .mv (.t 67), none, false⟩,
  ⟨some 68, .ext (.t 65) 0, none, false⟩,
  ⟨some 69, .ext (.t 65) 1, none, false⟩,
  ⟨some 12, .alloc true [(.int .i64 0), (.int .i64 0)], none, false⟩,
  ⟨none, .store 2 [] (.t 12) (.t 68), none, false⟩,
  ⟨some 13, .mv (.t 69), none, false⟩])
def s_law09_HeapDrains_p17 : SCode := (.region false [⟨some 71, .load none (.t 6), none, false⟩,
  ⟨some 72, .call f_heap_Heap_law09_Item_Pop [(.t 71)], none, false⟩,
  ⟨some 70, .mv (.t 72), none, false⟩,
  ⟨some 73, .ext (.t 70) 0, none, false⟩,
  ⟨some 74, .ext (.t 70) 1, none, false⟩,
  ⟨some 14, .alloc true [(.int .i64 0), (.int .i64 0)], none, false⟩,
  ⟨none, .store 2 [] (.t 14) (.t 73), none, false⟩,
  ⟨some 15, .mv (.t 74), none, false⟩])
def s_law09_HeapDrains_p18 : SCode := (.region false [⟨some 75, .load (some 2) (.t 12), none, false⟩,
  ⟨some 76, .load (some 2) (.t 14), none, false⟩,
  ⟨some 77, .eq true true [.int, .int] (.t 75) (.t 76), none, false⟩])
def s_law09_HeapDrains_p19 : SCode := (.seq (.kp [4, 5, 6, 12] s_law09_HeapDrains_p16) (.seq (.kp [4, 5, 6, 12, 14] s_law09_HeapDrains_p17) (.seq s_law09_HeapDrains_p18 (.cond (.t 77) (.seq (.region false [⟨none, .store 1 [] (.t 4) (.v (.bool false)), none, false⟩]) .ret) .skip))))
def s_law09_HeapDrains_p20 : SCode := (.seq (.kp [4, 5, 6] s_law09_HeapDrains_p15) (.block 5 s_law09_HeapDrains_p19))
def s_law09_HeapDrains_p21 : SCode := (.region false [⟨some 78, .mv (.t 5), none, false⟩,
  ⟨some 79, .call f_heap_Heap_law09_Item_Len [(.t 78)], none, false⟩,
  ⟨some 80, .bin .eql (.t 79) (.v (.int .i64 0)), none, false⟩,
  ⟨some 81, .mv (.t 80), none, false⟩,
  ⟨some 82, .call f_law09_awake [], (some (81, true)), false⟩,
  ⟨some 83, .pick (.t 81) (.t 82) (.v (.bool false)), none, false⟩,
  ⟨none, .store 1 [] (.t 4) (.t 83), none, false⟩])
def s_law09_HeapDrains_p22 : SCode := (.seq (.region false [⟨some 8, .alloc true [(.int .i64 0)], none, false⟩,
  ⟨none, .store 1 [] (.t 8) (.v (.int .i64 0)), none, false⟩]) (.seq (.kp [4, 5, 6] s_law09_HeapDrains_p14) (.seq (.kp [4, 5] (.block 4 (.loop (some [4, 5, 6]) s_law09_HeapDrains_p20))) (.seq (.kp [4] s_law09_HeapDrains_p21) .ret))))
def s_law09_HeapDrains_p23 : SCode := (.seq (.kp [3, 4, 5, 6] (.seq (.kp [0, 3, 4, 5, 6, 7] (.region false [⟨some 7, .mv (.v (.int .i64 0)), none, false⟩])) (.block 0 (.loop (some [0, 3, 4, 5, 6, 7]) s_law09_HeapDrains_p6)))) s_law09_HeapDrains_p22)
def s_law09_HeapDrains_p24 : SCode := (.seq (.region false [⟨some 3, .box true 1 (.t 1), none, false⟩,
  ⟨some 4, .alloc true [(.bool false)], none, false⟩]) (.seq (.kp [0, 3, 4] s_law09_HeapDrains_p0) (.seq (.kp [0, 3, 4, 5, 6] s_law09_HeapDrains_p1) s_law09_HeapDrains_p23)))
def s_law09_HeapDrains : SFn := ⟨2, [.cell 4 none], s_law09_HeapDrains_p24⟩
def tb : Tbl := fun f => match f with
  | 10 => some s_law09_HeapDrains
  | 24 => some s_heap_New_law09_Item
  | 25 => some s_law09_ahead
  | 26 => some s_heap_Heap_law09_Item_Push
  | 28 => some s_heap_Heap_law09_Item_Top
  | 29 => some s_heap_Heap_law09_Item_Len
  | 30 => some s_heap_Heap_law09_Item_Pop
  | 31 => some s_law09_awake
  | 38 => some s_heap_Heap_law09_Item_Drain
  | 49 => some s_heap_Heap_law09_Item_first
  | 52 => some s_heap_Heap_law09_Item_Drain_1
  | _ => none
@[go_sem] def u_heap_Heap_law09_Item_Len_p0 {F K fr m} := @RK_unf F K fr m _ _ s_heap_Heap_law09_Item_Len_p0.eq_1
@[go_sem] def u_heap_Heap_law09_Item_Len_p1 {F K fr m} := @RK_unf F K fr m _ _ s_heap_Heap_law09_Item_Len_p1.eq_1
theorem t_heap_Heap_law09_Item_Len : tb f_heap_Heap_law09_Item_Len = some s_heap_Heap_law09_Item_Len := rfl
@[go_sem] def u_heap_Heap_law09_Item_Top_p0 {F K fr m} := @RK_unf F K fr m _ _ s_heap_Heap_law09_Item_Top_p0.eq_1
@[go_sem] def u_heap_Heap_law09_Item_Top_p1 {F K fr m} := @RK_unf F K fr m _ _ s_heap_Heap_law09_Item_Top_p1.eq_1
@[go_sem] def u_heap_Heap_law09_Item_Top_p2 {F K fr m} := @RK_unf F K fr m _ _ s_heap_Heap_law09_Item_Top_p2.eq_1
@[go_sem] def u_heap_Heap_law09_Item_Top_p3 {F K fr m} := @RK_unf F K fr m _ _ s_heap_Heap_law09_Item_Top_p3.eq_1
theorem t_heap_Heap_law09_Item_Top : tb f_heap_Heap_law09_Item_Top = some s_heap_Heap_law09_Item_Top := rfl
@[go_sem] def u_heap_Heap_law09_Item_first_p0 {F K fr m} := @RK_unf F K fr m _ _ s_heap_Heap_law09_Item_first_p0.eq_1
@[go_sem] def u_heap_Heap_law09_Item_first_p1 {F K fr m} := @RK_unf F K fr m _ _ s_heap_Heap_law09_Item_first_p1.eq_1
@[go_sem] def u_heap_Heap_law09_Item_first_p2 {F K fr m} := @RK_unf F K fr m _ _ s_heap_Heap_law09_Item_first_p2.eq_1
@[go_sem] def u_heap_Heap_law09_Item_first_p3 {F K fr m} := @RK_unf F K fr m _ _ s_heap_Heap_law09_Item_first_p3.eq_1
@[go_sem] def u_heap_Heap_law09_Item_first_p4 {F K fr m} := @RK_unf F K fr m _ _ s_heap_Heap_law09_Item_first_p4.eq_1
@[go_sem] def u_heap_Heap_law09_Item_first_p5 {F K fr m} := @RK_unf F K fr m _ _ s_heap_Heap_law09_Item_first_p5.eq_1
theorem t_heap_Heap_law09_Item_first : tb f_heap_Heap_law09_Item_first = some s_heap_Heap_law09_Item_first := rfl
@[go_sem] def u_heap_Heap_law09_Item_Pop_p0 {F K fr m} := @RK_unf F K fr m _ _ s_heap_Heap_law09_Item_Pop_p0.eq_1
@[go_sem] def u_heap_Heap_law09_Item_Pop_p1 {F K fr m} := @RK_unf F K fr m _ _ s_heap_Heap_law09_Item_Pop_p1.eq_1
@[go_sem] def u_heap_Heap_law09_Item_Pop_p2 {F K fr m} := @RK_unf F K fr m _ _ s_heap_Heap_law09_Item_Pop_p2.eq_1
@[go_sem] def u_heap_Heap_law09_Item_Pop_p3 {F K fr m} := @RK_unf F K fr m _ _ s_heap_Heap_law09_Item_Pop_p3.eq_1
@[go_sem] def u_heap_Heap_law09_Item_Pop_p4 {F K fr m} := @RK_unf F K fr m _ _ s_heap_Heap_law09_Item_Pop_p4.eq_1
@[go_sem] def u_heap_Heap_law09_Item_Pop_p5 {F K fr m} := @RK_unf F K fr m _ _ s_heap_Heap_law09_Item_Pop_p5.eq_1
@[go_sem] def u_heap_Heap_law09_Item_Pop_p6 {F K fr m} := @RK_unf F K fr m _ _ s_heap_Heap_law09_Item_Pop_p6.eq_1
@[go_sem] def u_heap_Heap_law09_Item_Pop_p7 {F K fr m} := @RK_unf F K fr m _ _ s_heap_Heap_law09_Item_Pop_p7.eq_1
@[go_sem] def u_heap_Heap_law09_Item_Pop_p8 {F K fr m} := @RK_unf F K fr m _ _ s_heap_Heap_law09_Item_Pop_p8.eq_1
@[go_sem] def u_heap_Heap_law09_Item_Pop_p9 {F K fr m} := @RK_unf F K fr m _ _ s_heap_Heap_law09_Item_Pop_p9.eq_1
@[go_sem] def u_heap_Heap_law09_Item_Pop_p10 {F K fr m} := @RK_unf F K fr m _ _ s_heap_Heap_law09_Item_Pop_p10.eq_1
@[go_sem] def u_heap_Heap_law09_Item_Pop_p11 {F K fr m} := @RK_unf F K fr m _ _ s_heap_Heap_law09_Item_Pop_p11.eq_1
@[go_sem] def u_heap_Heap_law09_Item_Pop_p12 {F K fr m} := @RK_unf F K fr m _ _ s_heap_Heap_law09_Item_Pop_p12.eq_1
@[go_sem] def u_heap_Heap_law09_Item_Pop_p13 {F K fr m} := @RK_unf F K fr m _ _ s_heap_Heap_law09_Item_Pop_p13.eq_1
@[go_sem] def u_heap_Heap_law09_Item_Pop_p14 {F K fr m} := @RK_unf F K fr m _ _ s_heap_Heap_law09_Item_Pop_p14.eq_1
theorem t_heap_Heap_law09_Item_Pop : tb f_heap_Heap_law09_Item_Pop = some s_heap_Heap_law09_Item_Pop := rfl
@[go_sem] def u_heap_Heap_law09_Item_Drain_1_p0 {F K fr m} := @RK_unf F K fr m _ _ s_heap_Heap_law09_Item_Drain_1_p0.eq_1
@[go_sem] def u_heap_Heap_law09_Item_Drain_1_p1 {F K fr m} := @RK_unf F K fr m _ _ s_heap_Heap_law09_Item_Drain_1_p1.eq_1
@[go_sem] def u_heap_Heap_law09_Item_Drain_1_p2 {F K fr m} := @RK_unf F K fr m _ _ s_heap_Heap_law09_Item_Drain_1_p2.eq_1
theorem t_heap_Heap_law09_Item_Drain_1 : tb f_heap_Heap_law09_Item_Drain_1 = some s_heap_Heap_law09_Item_Drain_1 := rfl
@[go_sem] def u_heap_Heap_law09_Item_Drain_p0 {F K fr m} := @RK_unf F K fr m _ _ s_heap_Heap_law09_Item_Drain_p0.eq_1
theorem t_heap_Heap_law09_Item_Drain : tb f_heap_Heap_law09_Item_Drain = some s_heap_Heap_law09_Item_Drain := rfl
@[go_sem] def u_heap_Heap_law09_Item_Push_p0 {F K fr m} := @RK_unf F K fr m _ _ s_heap_Heap_law09_Item_Push_p0.eq_1
@[go_sem] def u_heap_Heap_law09_Item_Push_p1 {F K fr m} := @RK_unf F K fr m _ _ s_heap_Heap_law09_Item_Push_p1.eq_1
@[go_sem] def u_heap_Heap_law09_Item_Push_p2 {F K fr m} := @RK_unf F K fr m _ _ s_heap_Heap_law09_Item_Push_p2.eq_1
@[go_sem] def u_heap_Heap_law09_Item_Push_p3 {F K fr m} := @RK_unf F K fr m _ _ s_heap_Heap_law09_Item_Push_p3.eq_1
@[go_sem] def u_heap_Heap_law09_Item_Push_p4 {F K fr m} := @RK_unf F K fr m _ _ s_heap_Heap_law09_Item_Push_p4.eq_1
@[go_sem] def u_heap_Heap_law09_Item_Push_p5 {F K fr m} := @RK_unf F K fr m _ _ s_heap_Heap_law09_Item_Push_p5.eq_1
@[go_sem] def u_heap_Heap_law09_Item_Push_p6 {F K fr m} := @RK_unf F K fr m _ _ s_heap_Heap_law09_Item_Push_p6.eq_1
@[go_sem] def u_heap_Heap_law09_Item_Push_p7 {F K fr m} := @RK_unf F K fr m _ _ s_heap_Heap_law09_Item_Push_p7.eq_1
@[go_sem] def u_heap_Heap_law09_Item_Push_p8 {F K fr m} := @RK_unf F K fr m _ _ s_heap_Heap_law09_Item_Push_p8.eq_1
theorem t_heap_Heap_law09_Item_Push : tb f_heap_Heap_law09_Item_Push = some s_heap_Heap_law09_Item_Push := rfl
@[go_sem] def u_heap_New_law09_Item_p0 {F K fr m} := @RK_unf F K fr m _ _ s_heap_New_law09_Item_p0.eq_1
@[go_sem] def u_heap_New_law09_Item_p1 {F K fr m} := @RK_unf F K fr m _ _ s_heap_New_law09_Item_p1.eq_1
theorem t_heap_New_law09_Item : tb f_heap_New_law09_Item = some s_heap_New_law09_Item := rfl
@[go_sem] def u_law09_ahead_p0 {F K fr m} := @RK_unf F K fr m _ _ s_law09_ahead_p0.eq_1
@[go_sem] def u_law09_ahead_p1 {F K fr m} := @RK_unf F K fr m _ _ s_law09_ahead_p1.eq_1
theorem t_law09_ahead : tb f_law09_ahead = some s_law09_ahead := rfl
@[go_sem] def u_law09_awake_p0 {F K fr m} := @RK_unf F K fr m _ _ s_law09_awake_p0.eq_1
@[go_sem] def u_law09_awake_p1 {F K fr m} := @RK_unf F K fr m _ _ s_law09_awake_p1.eq_1
@[go_sem] def u_law09_awake_p2 {F K fr m} := @RK_unf F K fr m _ _ s_law09_awake_p2.eq_1
@[go_sem] def u_law09_awake_p3 {F K fr m} := @RK_unf F K fr m _ _ s_law09_awake_p3.eq_1
@[go_sem] def u_law09_awake_p4 {F K fr m} := @RK_unf F K fr m _ _ s_law09_awake_p4.eq_1
theorem t_law09_awake : tb f_law09_awake = some s_law09_awake := rfl
@[go_sem] def u_law09_HeapDrains_p0 {F K fr m} := @RK_unf F K fr m _ _ s_law09_HeapDrains_p0.eq_1
@[go_sem] def u_law09_HeapDrains_p1 {F K fr m} := @RK_unf F K fr m _ _ s_law09_HeapDrains_p1.eq_1
@[go_sem] def u_law09_HeapDrains_p2 {F K fr m} := @RK_unf F K fr m _ _ s_law09_HeapDrains_p2.eq_1
@[go_sem] def u_law09_HeapDrains_p3 {F K fr m} := @RK_unf F K fr m _ _ s_law09_HeapDrains_p3.eq_1
@[go_sem] def u_law09_HeapDrains_p4 {F K fr m} := @RK_unf F K fr m _ _ s_law09_HeapDrains_p4.eq_1
@[go_sem] def u_law09_HeapDrains_p5 {F K fr m} := @RK_unf F K fr m _ _ s_law09_HeapDrains_p5.eq_1
@[go_sem] def u_law09_HeapDrains_p6 {F K fr m} := @RK_unf F K fr m _ _ s_law09_HeapDrains_p6.eq_1
@[go_sem] def u_law09_HeapDrains_p7 {F K fr m} := @RK_unf F K fr m _ _ s_law09_HeapDrains_p7.eq_1
@[go_sem] def u_law09_HeapDrains_p8 {F K fr m} := @RK_unf F K fr m _ _ s_law09_HeapDrains_p8.eq_1
@[go_sem] def u_law09_HeapDrains_p9 {F K fr m} := @RK_unf F K fr m _ _ s_law09_HeapDrains_p9.eq_1
@[go_sem] def u_law09_HeapDrains_p10 {F K fr m} := @RK_unf F K fr m _ _ s_law09_HeapDrains_p10.eq_1
@[go_sem] def u_law09_HeapDrains_p11 {F K fr m} := @RK_unf F K fr m _ _ s_law09_HeapDrains_p11.eq_1
@[go_sem] def u_law09_HeapDrains_p12 {F K fr m} := @RK_unf F K fr m _ _ s_law09_HeapDrains_p12.eq_1
@[go_sem] def u_law09_HeapDrains_p13 {F K fr m} := @RK_unf F K fr m _ _ s_law09_HeapDrains_p13.eq_1
@[go_sem] def u_law09_HeapDrains_p14 {F K fr m} := @RK_unf F K fr m _ _ s_law09_HeapDrains_p14.eq_1
@[go_sem] def u_law09_HeapDrains_p15 {F K fr m} := @RK_unf F K fr m _ _ s_law09_HeapDrains_p15.eq_1
@[go_sem] def u_law09_HeapDrains_p16 {F K fr m} := @RK_unf F K fr m _ _ s_law09_HeapDrains_p16.eq_1
@[go_sem] def u_law09_HeapDrains_p17 {F K fr m} := @RK_unf F K fr m _ _ s_law09_HeapDrains_p17.eq_1
@[go_sem] def u_law09_HeapDrains_p18 {F K fr m} := @RK_unf F K fr m _ _ s_law09_HeapDrains_p18.eq_1
@[go_sem] def u_law09_HeapDrains_p19 {F K fr m} := @RK_unf F K fr m _ _ s_law09_HeapDrains_p19.eq_1
@[go_sem] def u_law09_HeapDrains_p20 {F K fr m} := @RK_unf F K fr m _ _ s_law09_HeapDrains_p20.eq_1
@[go_sem] def u_law09_HeapDrains_p21 {F K fr m} := @RK_unf F K fr m _ _ s_law09_HeapDrains_p21.eq_1
@[go_sem] def u_law09_HeapDrains_p22 {F K fr m} := @RK_unf F K fr m _ _ s_law09_HeapDrains_p22.eq_1
@[go_sem] def u_law09_HeapDrains_p23 {F K fr m} := @RK_unf F K fr m _ _ s_law09_HeapDrains_p23.eq_1
@[go_sem] def u_law09_HeapDrains_p24 {F K fr m} := @RK_unf F K fr m _ _ s_law09_HeapDrains_p24.eq_1
theorem t_law09_HeapDrains : tb f_law09_HeapDrains = some s_law09_HeapDrains := rfl
end Go.Sh.T
