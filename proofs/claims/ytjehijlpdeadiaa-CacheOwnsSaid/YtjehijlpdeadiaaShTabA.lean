import Derived.Test.YtjehijlpdeadiaaShSl
set_option linter.all false
set_option linter.unusedVariables false
set_option linter.unusedSimpArgs false
set_option autoImplicit false
set_option linter.all false
set_option maxRecDepth 4096
namespace Go.Sh.T
open Go.Sh
def f_law16_CacheOwns : FuncId := 3
def f_law16_CacheNobody : FuncId := 8
def f_cache_New : FuncId := 12
def f_cache_Cache_Put : FuncId := 13
def f_cache_Cache_Get : FuncId := 14
def f_ref10_Cells : FuncId := 15
def f_law16_awake : FuncId := 16
def f_cache_Cache_All : FuncId := 36
def f_cache_Cache_Len : FuncId := 37
def f_cache_own : FuncId := 41
def f_cache_Cache_All_1 : FuncId := 51
def f_slices_Clone_api_Cell_api_Cell : FuncId := 56
def s_cache_New_p0 : SCode := (.region false [⟨some 4, .mv (.t 0), none, false⟩,
  ⟨some 5, .bin .lss (.t 4) (.v (.int .i64 1)), none, false⟩,
  ⟨some 6, .mv (.t 5), none, false⟩,
  ⟨some 7, .mv (.t 0), (some (6, false)), false⟩,
  ⟨some 8, .bin .gtr (.t 7) (.v (.int .i64 256)), (some (6, false)), false⟩,
  ⟨some 9, .pick (.t 6) (.v (.bool true)) (.t 8), none, false⟩])
def s_cache_New_p1 : SCode := (.region false [⟨some 10, .mv (.t 0), none, false⟩,
  ⟨some 11, .mkmap, none, false⟩,
  ⟨some 12, .build [(.int .i64 0), (.int .i64 0), .nilm, .nils] [(0, 1, (.t 10)), (2, 1, (.t 11))], none, false⟩,
  ⟨some 13, .box false 4 (.t 12), none, false⟩,
  ⟨some 2, .mv (.t 13), none, false⟩,
  ⟨some 3, .mv (.v (.int .i64 0)), none, false⟩])
def s_cache_New_p2 : SCode := (.seq (.kp [0] (.seq (.kp [0, 9] s_cache_New_p0) (.cond (.t 9) (.seq (.region false [⟨some 2, .mv (.v .nilp), none, false⟩,
  ⟨some 3, .mv (.v (.int .i64 1)), none, false⟩]) .ret) .skip))) (.seq (.kp [2, 3] s_cache_New_p1) .ret))
def s_cache_New : SFn := ⟨1, [.t 2, .t 3], (.seq (.region false [⟨some 2, .mv (.v .nilp), none, false⟩,
  ⟨some 3, .mv (.v (.int .i64 0)), none, false⟩]) s_cache_New_p2)⟩
def s_slices_Clone_api_Cell_api_Cell_p0 : SCode := (.seq (.region false [⟨some 3, .mv (.t 0), none, false⟩,
  ⟨some 4, .eq false false [.slice] (.t 3) (.v .nils), none, false⟩]) (.cond (.t 4) (.seq (.region false [⟨some 2, .mv (.v .nils), none, false⟩]) .ret) .skip))
def s_slices_Clone_api_Cell_api_Cell_p1 : SCode := (.region false [⟨some 5, .bslice [] 0 2 [], none, false⟩,
  ⟨some 6, .mv (.t 0), none, false⟩,
  ⟨some 7, .append 2 16 [(.int .i64 0), (.int .i64 0)] [] (.t 5) (.t 6), none, false⟩,
  ⟨some 2, .mv (.t 7), none, false⟩])
def s_slices_Clone_api_Cell_api_Cell : SFn := ⟨1, [.t 2], (.seq (.region false [⟨some 2, .mv (.v .nils), none, false⟩]) (.seq (.kp [0] s_slices_Clone_api_Cell_api_Cell_p0) (.seq s_slices_Clone_api_Cell_api_Cell_p1 .ret)))⟩
def s_cache_own_p0 : SCode := (.region true [⟨some 3, .faddr 0 (.t 1), none, true⟩,
  ⟨some 4, .load none (.t 3), none, true⟩,
  ⟨some 5, .faddr 1 (.t 1), none, true⟩,
  ⟨some 6, .load none (.t 5), none, true⟩,
  ⟨some 7, .call f_slices_Clone_api_Cell_api_Cell [(.t 6)], none, true⟩,
  ⟨some 8, .build [(.int .i64 0), .nils] [(0, 1, (.t 4)), (1, 1, (.t 7))], none, false⟩,
  ⟨none, .store 2 [] (.t 2) (.t 8), none, false⟩])
def s_cache_own : SFn := ⟨1, [.cell 2 (some 2)], (.seq (.region false [⟨some 1, .box true 2 (.t 0), none, false⟩,
  ⟨some 2, .alloc true [(.int .i64 0), .nils], none, false⟩]) (.seq (.kp [2] s_cache_own_p0) .ret))⟩
def s_cache_Cache_Put_p0 : SCode := (.region false [⟨some 11, .mv (.t 0), none, false⟩,
  ⟨some 12, .eq false false [.ptr] (.t 11) (.v .nilp), none, false⟩,
  ⟨some 13, .mv (.t 12), none, false⟩,
  ⟨some 14, .mv (.t 0), (some (13, false)), false⟩,
  ⟨some 15, .nilck (.t 14), (some (13, false)), false⟩,
  ⟨some 16, .faddr 0 (.t 15), (some (13, false)), false⟩,
  ⟨some 17, .load none (.t 16), (some (13, false)), false⟩,
  ⟨some 18, .bin .eql (.t 17) (.v (.int .i64 0)), (some (13, false)), false⟩,
  ⟨some 19, .pick (.t 13) (.v (.bool true)) (.t 18), none, false⟩])
def s_cache_Cache_Put_p1 : SCode := (.region false [⟨some 20, .mv (.t 2), none, false⟩,
  ⟨some 21, .mv (.t 0), none, false⟩,
  ⟨some 22, .nilck (.t 21), none, false⟩,
  ⟨some 23, .faddr 1 (.t 22), none, false⟩,
  ⟨some 24, .load none (.t 23), none, false⟩,
  ⟨some 25, .bin .neq (.t 20) (.t 24), none, false⟩])
def s_cache_Cache_Put_p2 : SCode := (.region false [⟨some 26, .mv (.t 0), none, false⟩,
  ⟨some 27, .nilck (.t 26), none, false⟩,
  ⟨some 28, .faddr 2 (.t 27), none, false⟩,
  ⟨some 29, .load none (.t 28), none, false⟩,
  ⟨none, .clear (.t 29), none, false⟩])
def s_cache_Cache_Put_p3 : SCode := (.region false [⟨some 30, .mv (.t 0), none, false⟩,
  ⟨some 31, .mv (.t 0), none, false⟩,
  ⟨some 32, .mv (.t 2), none, false⟩,
  ⟨some 33, .nilck (.t 30), none, false⟩,
  ⟨some 34, .faddr 3 (.t 33), none, false⟩,
  ⟨none, .store 1 [] (.t 34) (.v .nils), none, false⟩,
  ⟨some 35, .nilck (.t 31), none, false⟩,
  ⟨some 36, .faddr 1 (.t 35), none, false⟩,
  ⟨none, .store 1 [] (.t 36) (.t 32), none, false⟩])
def s_cache_Cache_Put_p4 : SCode := (.region true [⟨some 38, .mv (.t 0), none, true⟩,
  ⟨some 39, .nilck (.t 38), none, true⟩,
  ⟨some 40, .faddr 2 (.t 39), none, true⟩,
  ⟨some 41, .load none (.t 40), none, true⟩,
  ⟨some 42, .load (some 6) (.t 5), none, true⟩,
  ⟨some 43, .lookup true [.int, .int, .int, .int, .int, .int] (.agg [(.int .i64 0), .nils]) true (.t 41) (.t 42), none, false⟩,
  ⟨some 37, .mv (.t 43), none, false⟩,
  ⟨some 44, .ext (.t 37) 0, none, false⟩,
  ⟨some 45, .ext (.t 37) 1, none, true⟩,
  ⟨some 9, .alloc true [(.int .i64 0), .nils], none, true⟩,
  ⟨none, .store 2 [] (.t 9) (.t 44), none, false⟩,
  ⟨some 10, .mv (.t 45), none, false⟩])
def s_cache_Cache_Put_p5 : SCode := (.region true [⟨some 48, .mv (.t 0), none, true⟩,
  ⟨some 49, .nilck (.t 48), none, true⟩,
  ⟨some 50, .faddr 3 (.t 49), none, true⟩,
  ⟨some 51, .load none (.t 50), none, true⟩,
  ⟨some 52, .len (.t 51), none, true⟩,
  ⟨some 53, .mv (.t 0), none, true⟩,
  ⟨some 54, .nilck (.t 53), none, true⟩,
  ⟨some 55, .faddr 0 (.t 54), none, true⟩,
  ⟨some 56, .load none (.t 55), none, true⟩,
  ⟨some 57, .bin .eql (.t 52) (.t 56), none, false⟩])
def s_cache_Cache_Put_p6 : SCode := (.region true [⟨some 58, .mv (.t 0), none, true⟩,
  ⟨some 59, .nilck (.t 58), none, true⟩,
  ⟨some 60, .faddr 2 (.t 59), none, true⟩,
  ⟨some 61, .load none (.t 60), none, true⟩,
  ⟨some 62, .mv (.t 0), none, true⟩,
  ⟨some 63, .nilck (.t 62), none, true⟩,
  ⟨some 64, .faddr 3 (.t 63), none, true⟩,
  ⟨some 65, .load none (.t 64), none, true⟩,
  ⟨some 66, .iaddr 6 (.t 65) (.v (.int .i64 0)), none, true⟩,
  ⟨some 67, .load (some 6) (.t 66), none, true⟩,
  ⟨none, .delete true [.int, .int, .int, .int, .int, .int] (.t 61) (.t 67), none, false⟩])
def s_cache_Cache_Put_p7 : SCode := (.region false [⟨some 68, .mv (.t 0), none, false⟩,
  ⟨some 69, .mv (.t 0), none, false⟩,
  ⟨some 70, .nilck (.t 69), none, false⟩,
  ⟨some 71, .faddr 3 (.t 70), none, false⟩,
  ⟨some 72, .load none (.t 71), none, false⟩,
  ⟨some 73, .slice 6 (.t 72) (some (.v (.int .i64 1))) none none, none, false⟩,
  ⟨some 74, .nilck (.t 68), none, false⟩,
  ⟨some 75, .faddr 3 (.t 74), none, false⟩,
  ⟨none, .store 1 [] (.t 75) (.t 73), none, false⟩])
def s_cache_Cache_Put_p8 : SCode := (.region true [⟨some 76, .mv (.t 0), none, true⟩,
  ⟨some 77, .mv (.t 0), none, true⟩,
  ⟨some 78, .nilck (.t 77), none, true⟩,
  ⟨some 79, .faddr 3 (.t 78), none, true⟩,
  ⟨some 80, .load none (.t 79), none, true⟩,
  ⟨some 81, .load (some 6) (.t 5), none, true⟩,
  ⟨some 82, .bslice [(.int .i64 0), (.int .i64 0), (.int .i64 0), (.int .i64 0), (.int .i64 0), (.int .i64 0)] 1 6 [(0, 6, (.t 81))], none, true⟩,
  ⟨some 83, .append 6 48 [(.int .i64 0), (.int .i64 0), (.int .i64 0), (.int .i64 0), (.int .i64 0), (.int .i64 0)] [] (.t 80) (.t 82), none, false⟩,
  ⟨some 84, .nilck (.t 76), none, false⟩,
  ⟨some 85, .faddr 3 (.t 84), none, false⟩,
  ⟨none, .store 1 [] (.t 85) (.t 83), none, false⟩])
def s_cache_Cache_Put_p9 : SCode := (.seq (.region false [⟨some 46, .mv (.t 10), none, false⟩,
  ⟨some 47, .un .not (.t 46), none, false⟩]) (.cond (.t 47) (.seq (.kp [0, 5, 7] (.seq (.kp [0, 5, 7, 57] s_cache_Cache_Put_p5) (.cond (.t 57) (.seq (.kp [0, 5, 7] s_cache_Cache_Put_p6) s_cache_Cache_Put_p7) .skip))) s_cache_Cache_Put_p8) .skip))
def s_cache_Cache_Put_p10 : SCode := (.region true [⟨some 86, .mv (.t 0), none, true⟩,
  ⟨some 87, .nilck (.t 86), none, true⟩,
  ⟨some 88, .faddr 2 (.t 87), none, true⟩,
  ⟨some 89, .load none (.t 88), none, true⟩,
  ⟨some 90, .load (some 6) (.t 5), none, true⟩,
  ⟨some 91, .load (some 2) (.t 7), none, true⟩,
  ⟨some 92, .call f_cache_own [(.t 91)], none, true⟩,
  ⟨none, .mapset true [.int, .int, .int, .int, .int, .int] (.t 89) (.t 90) (.t 92), none, false⟩])
def s_cache_Cache_Put_p11 : SCode := (.seq (.kp [0, 5, 7] (.seq (.kp [0, 2, 5, 7, 25] s_cache_Cache_Put_p1) (.cond (.t 25) (.seq (.kp [0, 2, 5, 7] s_cache_Cache_Put_p2) s_cache_Cache_Put_p3) .skip))) (.seq (.kp [0, 5, 7] (.seq (.kp [0, 5, 7, 10] s_cache_Cache_Put_p4) s_cache_Cache_Put_p9)) (.seq (.kp [] s_cache_Cache_Put_p10) (.seq (.region false [⟨some 8, .mv (.v (.int .i64 0)), none, false⟩]) .ret))))
def s_cache_Cache_Put_p12 : SCode := (.seq (.region false [⟨some 5, .box true 6 (.t 1), none, false⟩,
  ⟨some 7, .box true 2 (.t 3), none, false⟩,
  ⟨some 8, .mv (.v (.int .i64 0)), none, false⟩]) (.seq (.kp [0, 2, 5, 7] (.seq (.kp [0, 2, 5, 7, 19] s_cache_Cache_Put_p0) (.cond (.t 19) (.seq (.region false [⟨some 8, .mv (.v (.int .i64 1)), none, false⟩]) .ret) .skip))) s_cache_Cache_Put_p11))
def s_cache_Cache_Put : SFn := ⟨4, [.t 8], s_cache_Cache_Put_p12⟩
def s_cache_Cache_Get_p0 : SCode := (.region false [⟨some 10, .mv (.t 0), none, false⟩,
  ⟨some 11, .eq false false [.ptr] (.t 10) (.v .nilp), none, false⟩,
  ⟨some 12, .mv (.t 11), none, false⟩,
  ⟨some 13, .mv (.t 2), (some (12, false)), false⟩,
  ⟨some 14, .mv (.t 0), (some (12, false)), false⟩,
  ⟨some 15, .nilck (.t 14), (some (12, false)), false⟩,
  ⟨some 16, .faddr 1 (.t 15), (some (12, false)), false⟩,
  ⟨some 17, .load none (.t 16), (some (12, false)), false⟩,
  ⟨some 18, .bin .neq (.t 13) (.t 17), (some (12, false)), false⟩,
  ⟨some 19, .pick (.t 12) (.v (.bool true)) (.t 18), none, false⟩])
def s_cache_Cache_Get_p1 : SCode := (.seq (.region false [⟨some 20, .build [(.int .i64 0), .nils] [], none, false⟩,
  ⟨none, .store 2 [] (.t 6) (.t 20), none, false⟩,
  ⟨some 7, .mv (.v (.bool false)), none, false⟩]) .ret)
def s_cache_Cache_Get_p2 : SCode := (.region true [⟨some 22, .mv (.t 0), none, true⟩,
  ⟨some 23, .nilck (.t 22), none, true⟩,
  ⟨some 24, .faddr 2 (.t 23), none, true⟩,
  ⟨some 25, .load none (.t 24), none, true⟩,
  ⟨some 26, .load (some 6) (.t 4), none, true⟩,
  ⟨some 27, .lookup true [.int, .int, .int, .int, .int, .int] (.agg [(.int .i64 0), .nils]) true (.t 25) (.t 26), none, false⟩,
  ⟨some 21, .mv (.t 27), none, false⟩,
  ⟨some 28, .ext (.t 21) 0, none, false⟩,
  ⟨some 29, .ext (.t 21) 1, none, true⟩,
  ⟨some 8, .alloc true [(.int .i64 0), .nils], none, true⟩,
  ⟨none, .store 2 [] (.t 8) (.t 28), none, false⟩,
  ⟨some 9, .mv (.t 29), none, false⟩])
def s_cache_Cache_Get_p3 : SCode := (.region false [⟨some 30, .load (some 2) (.t 8), none, false⟩,
  ⟨some 31, .call f_cache_own [(.t 30)], none, false⟩,
  ⟨some 32, .mv (.t 9), none, false⟩,
  ⟨none, .store 2 [] (.t 6) (.t 31), none, false⟩,
  ⟨some 7, .mv (.t 32), none, false⟩])
def s_cache_Cache_Get_p4 : SCode := (.seq (.region false [⟨some 4, .box true 6 (.t 1), none, false⟩,
  ⟨some 6, .alloc true [(.int .i64 0), .nils], none, false⟩,
  ⟨some 7, .mv (.v (.bool false)), none, false⟩]) (.seq (.kp [0, 4, 6] (.seq (.kp [0, 4, 6, 19] s_cache_Cache_Get_p0) (.cond (.t 19) s_cache_Cache_Get_p1 .skip))) (.seq (.kp [6, 8, 9] s_cache_Cache_Get_p2) (.seq (.kp [6, 7] s_cache_Cache_Get_p3) .ret))))
def s_cache_Cache_Get : SFn := ⟨3, [.cell 6 (some 2), .t 7], s_cache_Cache_Get_p4⟩
def s_ref10_Cells_p0 : SCode := (.region false [⟨some 6, .mv (.t 0), none, false⟩,
  ⟨some 7, .len (.t 6), none, false⟩,
  ⟨some 8, .mv (.t 1), none, false⟩,
  ⟨some 9, .len (.t 8), none, false⟩,
  ⟨some 10, .bin .neq (.t 7) (.t 9), none, false⟩])
def s_ref10_Cells_p1 : SCode := (.region false [⟨some 11, .mv (.t 5), none, false⟩,
  ⟨some 12, .mv (.t 0), none, false⟩,
  ⟨some 13, .len (.t 12), none, false⟩,
  ⟨some 14, .bin .lss (.t 11) (.t 13), none, false⟩])
def s_ref10_Cells_p2 : SCode := (.region true [⟨some 17, .mv (.t 0), none, true⟩,
  ⟨some 18, .mv (.t 5), none, true⟩,
  ⟨some 19, .iaddr 2 (.t 17) (.t 18), none, true⟩,
  ⟨some 20, .load (some 2) (.t 19), none, true⟩,
  ⟨some 21, .mv (.t 1), none, true⟩,
  ⟨some 22, .mv (.t 5), none, true⟩,
  ⟨some 23, .iaddr 2 (.t 21) (.t 22), none, true⟩,
  ⟨some 24, .load (some 2) (.t 23), none, true⟩,
  ⟨some 25, .eq true true [.int, .int] (.t 20) (.t 24), none, false⟩])
def s_ref10_Cells_p3 : SCode := (.seq (.kp [0, 1, 5] (.block 1 (.seq (.kp [0, 1, 5, 25] s_ref10_Cells_p2) (.cond (.t 25) (.seq (.region false [⟨some 4, .mv (.v (.bool false)), none, false⟩]) .ret) .skip)))) (.region false [⟨some 15, .mv (.t 5), none, false⟩,
  ⟨some 16, .bin .add (.t 15) (.v (.int .i64 1)), none, false⟩,
  ⟨some 5, .mv (.t 16), none, false⟩]))
def s_ref10_Cells_p4 : SCode := (.seq (.kp [0, 1, 5] (.seq s_ref10_Cells_p1 (.cond (.t 14) .skip (.exit 0)))) s_ref10_Cells_p3)
def s_ref10_Cells_p5 : SCode := (.seq (.kp [] (.seq (.kp [0, 1, 5] (.region false [⟨some 5, .mv (.v (.int .i64 0)), none, false⟩])) (.block 0 (.loop (some [0, 1, 5]) s_ref10_Cells_p4)))) (.seq (.region false [⟨some 4, .mv (.v (.bool true)), none, false⟩]) .ret))
def s_ref10_Cells_p6 : SCode := (.seq (.region false [⟨some 4, .mv (.v (.bool false)), none, false⟩]) (.seq (.kp [0, 1] (.seq (.kp [0, 1, 10] s_ref10_Cells_p0) (.cond (.t 10) (.seq (.region false [⟨some 4, .mv (.v (.bool false)), none, false⟩]) .ret) .skip))) s_ref10_Cells_p5))
def s_ref10_Cells : SFn := ⟨2, [.t 4], s_ref10_Cells_p6⟩
def s_law16_awake_p0 : SCode := (.region false [⟨some 8, .call f_cache_New [(.v (.int .i64 2))], none, false⟩,
  ⟨some 7, .mv (.t 8), none, false⟩,
  ⟨some 9, .ext (.t 7) 0, none, false⟩,
  ⟨some 10, .ext (.t 7) 1, none, false⟩,
  ⟨some 1, .mv (.t 9), none, false⟩,
  ⟨some 2, .mv (.t 10), none, false⟩])
def s_law16_awake_p1 : SCode := (.seq (.region false [⟨some 11, .mv (.t 2), none, false⟩,
  ⟨some 12, .bin .neq (.t 11) (.v (.int .i64 0)), none, false⟩]) (.cond (.t 12) (.seq (.region false [⟨some 0, .mv (.v (.bool false)), none, false⟩]) .ret) .skip))
def s_law16_awake_p2 : SCode := (.region false [⟨some 13, .mv (.t 1), none, false⟩,
  ⟨some 14, .build [(.int .i64 0), (.int .i64 0), (.int .i64 0), (.int .i64 0), (.int .i64 0), (.int .i64 0)] [], none, false⟩,
  ⟨some 15, .build [(.int .i64 0), (.int .i64 0)] [(0, 1, (.v (.int .i64 5)))], none, false⟩,
  ⟨some 16, .bslice [(.int .i64 0), (.int .i64 0)] 1 2 [(0, 2, (.t 15))], none, false⟩,
  ⟨some 17, .build [(.int .i64 0), .nils] [(0, 1, (.v (.int .i64 1))), (1, 1, (.t 16))], none, false⟩,
  ⟨some 18, .call f_cache_Cache_Put [(.t 13), (.t 14), (.v (.int .i64 3)), (.t 17)], none, false⟩])
def s_law16_awake_p3 : SCode := (.region false [⟨some 20, .mv (.t 1), none, false⟩,
  ⟨some 21, .build [(.int .i64 0), (.int .i64 0), (.int .i64 0), (.int .i64 0), (.int .i64 0), (.int .i64 0)] [], none, false⟩,
  ⟨some 22, .call f_cache_Cache_Get [(.t 20), (.t 21), (.v (.int .i64 3))], none, false⟩,
  ⟨some 19, .mv (.t 22), none, false⟩,
  ⟨some 23, .ext (.t 19) 0, none, false⟩,
  ⟨some 24, .ext (.t 19) 1, none, false⟩,
  ⟨some 3, .alloc true [(.int .i64 0), .nils], none, false⟩,
  ⟨none, .store 2 [] (.t 3) (.t 23), none, false⟩,
  ⟨some 4, .mv (.t 24), none, false⟩])
def s_law16_awake_p4 : SCode := (.region false [⟨some 26, .mv (.t 1), none, false⟩,
  ⟨some 27, .build [(.int .i64 0), (.int .i64 0), (.int .i64 0), (.int .i64 0), (.int .i64 0), (.int .i64 0)] [], none, false⟩,
  ⟨some 28, .call f_cache_Cache_Get [(.t 26), (.t 27), (.v (.int .i64 2))], none, false⟩,
  ⟨some 25, .mv (.t 28), none, false⟩,
  ⟨some 29, .ext (.t 25) 0, none, false⟩,
  ⟨some 30, .ext (.t 25) 1, none, false⟩,
  ⟨some 5, .alloc true [(.int .i64 0), .nils], none, false⟩,
  ⟨none, .store 2 [] (.t 5) (.t 29), none, false⟩,
  ⟨some 6, .mv (.t 30), none, false⟩])
def s_law16_awake_p5 : SCode := (.region false [⟨some 31, .mv (.t 4), none, false⟩,
  ⟨some 32, .mv (.t 31), none, false⟩,
  ⟨some 33, .mv (.t 6), (some (32, true)), false⟩,
  ⟨some 34, .un .not (.t 33), (some (32, true)), false⟩,
  ⟨some 35, .pick (.t 32) (.t 34) (.v (.bool false)), none, false⟩,
  ⟨some 36, .mv (.t 35), none, false⟩,
  ⟨some 37, .faddr 1 (.t 3), (some (36, true)), false⟩,
  ⟨some 38, .load none (.t 37), (some (36, true)), false⟩,
  ⟨some 39, .len (.t 38), (some (36, true)), false⟩,
  ⟨some 40, .bin .eql (.t 39) (.v (.int .i64 1)), (some (36, true)), false⟩,
  ⟨some 41, .pick (.t 36) (.t 40) (.v (.bool false)), none, false⟩,
  ⟨some 42, .mv (.t 41), none, false⟩,
  ⟨some 43, .faddr 1 (.t 3), (some (42, true)), false⟩,
  ⟨some 44, .load none (.t 43), (some (42, true)), false⟩,
  ⟨some 45, .iaddr 2 (.t 44) (.v (.int .i64 0)), (some (42, true)), false⟩,
  ⟨some 46, .faddr 0 (.t 45), (some (42, true)), false⟩,
  ⟨some 47, .load none (.t 46), (some (42, true)), false⟩,
  ⟨some 48, .bin .eql (.t 47) (.v (.int .i64 5)), (some (42, true)), false⟩,
  ⟨some 49, .pick (.t 42) (.t 48) (.v (.bool false)), none, false⟩,
  ⟨some 0, .mv (.t 49), none, false⟩])
def s_law16_awake_p6 : SCode := (.seq (.region false [⟨some 0, .mv (.v (.bool false)), none, false⟩]) (.seq (.kp [1, 2] s_law16_awake_p0) (.seq (.kp [1] s_law16_awake_p1) (.seq (.kp [1] s_law16_awake_p2) (.seq (.kp [1, 3, 4] s_law16_awake_p3) (.seq (.kp [3, 4, 6] s_law16_awake_p4) (.seq (.kp [0] s_law16_awake_p5) .ret)))))))
def s_law16_awake : SFn := ⟨0, [.t 0], s_law16_awake_p6⟩
def s_law16_CacheOwns_p0 : SCode := (.region false [⟨some 15, .call f_cache_New [(.v (.int .i64 1))], none, false⟩,
  ⟨some 14, .mv (.t 15), none, false⟩,
  ⟨some 16, .ext (.t 14) 0, none, false⟩,
  ⟨some 17, .ext (.t 14) 1, none, false⟩,
  ⟨some 7, .mv (.t 16), none, false⟩,
  ⟨some 8, .mv (.t 17), none, false⟩])
def s_law16_CacheOwns_p1 : SCode := (.seq (.region false [⟨some 18, .mv (.t 8), none, false⟩,
  ⟨some 19, .bin .neq (.t 18) (.v (.int .i64 0)), none, false⟩]) (.cond (.t 19) (.seq (.region false [⟨some 6, .mv (.v (.bool false)), none, false⟩]) .ret) .skip))
def s_law16_CacheOwns_p2 : SCode := (.region false [⟨some 20, .bslice [] 0 2 [], none, false⟩,
  ⟨some 21, .mv (.t 2), none, false⟩,
  ⟨some 22, .append 2 16 [(.int .i64 0), (.int .i64 0)] [] (.t 20) (.t 21), none, false⟩,
  ⟨some 9, .mv (.t 22), none, false⟩])
def s_law16_CacheOwns_p3 : SCode := (.region false [⟨some 23, .mv (.t 7), none, false⟩,
  ⟨some 24, .load (some 6) (.t 3), none, false⟩,
  ⟨some 25, .mv (.t 1), none, false⟩,
  ⟨some 26, .mv (.t 9), none, false⟩,
  ⟨some 27, .build [(.int .i64 0), .nils] [(0, 1, (.v (.int .i64 1))), (1, 1, (.t 26))], none, false⟩,
  ⟨some 28, .call f_cache_Cache_Put [(.t 23), (.t 24), (.t 25), (.t 27)], none, false⟩])
def s_law16_CacheOwns_p4 : SCode := (.region false [⟨some 29, .mv (.t 10), none, false⟩,
  ⟨some 30, .mv (.t 9), none, false⟩,
  ⟨some 31, .len (.t 30), none, false⟩,
  ⟨some 32, .bin .lss (.t 29) (.t 31), none, false⟩])
def s_law16_CacheOwns_p5 : SCode := (.region false [⟨some 35, .mv (.t 9), none, false⟩,
  ⟨some 36, .mv (.t 10), none, false⟩,
  ⟨some 37, .iaddr 2 (.t 35) (.t 36), none, false⟩,
  ⟨some 38, .faddr 0 (.t 37), none, false⟩,
  ⟨some 39, .load none (.t 38), none, false⟩,
  ⟨some 40, .bin .add (.t 39) (.v (.int .i64 1)), none, false⟩,
  ⟨some 41, .iaddr 2 (.t 35) (.t 36), none, false⟩,
  ⟨some 42, .faddr 0 (.t 41), none, false⟩,
  ⟨none, .store 1 [] (.t 42) (.t 40), none, false⟩])
def s_law16_CacheOwns_p6 : SCode := (.seq (.kp [1, 2, 3, 7, 9, 10] (.block 1 s_law16_CacheOwns_p5)) (.region false [⟨some 33, .mv (.t 10), none, false⟩,
  ⟨some 34, .bin .add (.t 33) (.v (.int .i64 1)), none, false⟩,
  ⟨some 10, .mv (.t 34), none, false⟩]))
def s_law16_CacheOwns_p7 : SCode := (.seq (.kp [1, 2, 3, 7, 9, 10] (.seq s_law16_CacheOwns_p4 (.cond (.t 32) .skip (.exit 0)))) s_law16_CacheOwns_p6)
def s_law16_CacheOwns_p8 : SCode := (.region false [⟨some 44, .mv (.t 7), none, false⟩,
  ⟨some 45, .load (some 6) (.t 3), none, false⟩,
  ⟨some 46, .mv (.t 1), none, false⟩,
  ⟨some 47, .call f_cache_Cache_Get [(.t 44), (.t 45), (.t 46)], none, false⟩,
  ⟨some 43, .mv (.t 47), none, false⟩,
  ⟨some 48, .ext (.t 43) 0, none, false⟩,
  ⟨some 49, .ext (.t 43) 1, none, false⟩,
  ⟨some 11, .alloc true [(.int .i64 0), .nils], none, false⟩,
  ⟨none, .store 2 [] (.t 11) (.t 48), none, false⟩,
  ⟨some 12, .mv (.t 49), none, false⟩])
def s_law16_CacheOwns_p9 : SCode := (.region false [⟨some 50, .mv (.t 12), none, false⟩,
  ⟨some 51, .un .not (.t 50), none, false⟩,
  ⟨some 52, .mv (.t 51), none, false⟩,
  ⟨some 53, .faddr 1 (.t 11), (some (52, false)), false⟩,
  ⟨some 54, .load none (.t 53), (some (52, false)), false⟩,
  ⟨some 55, .mv (.t 2), (some (52, false)), false⟩,
  ⟨some 56, .call f_ref10_Cells [(.t 54), (.t 55)], (some (52, false)), false⟩,
  ⟨some 57, .un .not (.t 56), (some (52, false)), false⟩,
  ⟨some 58, .pick (.t 52) (.v (.bool true)) (.t 57), none, false⟩])
def s_law16_CacheOwns_p10 : SCode := (.region false [⟨some 59, .mv (.t 13), none, false⟩,
  ⟨some 60, .faddr 1 (.t 11), none, false⟩,
  ⟨some 61, .load none (.t 60), none, false⟩,
  ⟨some 62, .len (.t 61), none, false⟩,
  ⟨some 63, .bin .lss (.t 59) (.t 62), none, false⟩])
def s_law16_CacheOwns_p11 : SCode := (.region false [⟨some 66, .faddr 1 (.t 11), none, false⟩,
  ⟨some 67, .load none (.t 66), none, false⟩,
  ⟨some 68, .mv (.t 13), none, false⟩,
  ⟨some 69, .iaddr 2 (.t 67) (.t 68), none, false⟩,
  ⟨some 70, .faddr 1 (.t 69), none, false⟩,
  ⟨some 71, .load none (.t 70), none, false⟩,
  ⟨some 72, .bin .sub (.t 71) (.v (.int .i64 1)), none, false⟩,
  ⟨some 73, .iaddr 2 (.t 67) (.t 68), none, false⟩,
  ⟨some 74, .faddr 1 (.t 73), none, false⟩,
  ⟨none, .store 1 [] (.t 74) (.t 72), none, false⟩])
def s_law16_CacheOwns_p12 : SCode := (.seq (.kp [1, 2, 3, 7, 11, 13] (.block 3 s_law16_CacheOwns_p11)) (.region false [⟨some 64, .mv (.t 13), none, false⟩,
  ⟨some 65, .bin .add (.t 64) (.v (.int .i64 1)), none, false⟩,
  ⟨some 13, .mv (.t 65), none, false⟩]))
def s_law16_CacheOwns_p13 : SCode := (.seq (.kp [1, 2, 3, 7, 11, 13] (.seq (.kp [1, 2, 3, 7, 11, 13, 63] s_law16_CacheOwns_p10) (.cond (.t 63) .skip (.exit 2)))) s_law16_CacheOwns_p12)
def s_law16_CacheOwns_p14 : SCode := (.region false [⟨some 76, .mv (.t 7), none, false⟩,
  ⟨some 77, .load (some 6) (.t 3), none, false⟩,
  ⟨some 78, .mv (.t 1), none, false⟩,
  ⟨some 79, .call f_cache_Cache_Get [(.t 76), (.t 77), (.t 78)], none, false⟩,
  ⟨some 75, .mv (.t 79), none, false⟩,
  ⟨some 80, .ext (.t 75) 0, none, false⟩,
  ⟨some 81, .ext (.t 75) 1, none, false⟩,
  ⟨none, .store 2 [] (.t 11) (.t 80), none, false⟩])
def s_law16_CacheOwns_p15 : SCode := (.region false [⟨some 82, .faddr 1 (.t 11), none, false⟩,
  ⟨some 83, .load none (.t 82), none, false⟩,
  ⟨some 84, .mv (.t 2), none, false⟩,
  ⟨some 85, .call f_ref10_Cells [(.t 83), (.t 84)], none, false⟩,
  ⟨some 86, .mv (.t 85), none, false⟩,
  ⟨some 87, .call f_law16_awake [], (some (86, true)), false⟩,
  ⟨some 88, .pick (.t 86) (.t 87) (.v (.bool false)), none, false⟩,
  ⟨some 6, .mv (.t 88), none, false⟩])
def s_law16_CacheOwns_p16 : SCode := (.seq (.kp [1, 2, 3, 7, 11] (.seq (.kp [1, 2, 3, 7, 11, 13] (.region false [⟨some 13, .mv (.v (.int .i64 0)), none, false⟩])) (.block 2 (.loop (some [1, 2, 3, 7, 11, 13]) s_law16_CacheOwns_p13)))) (.seq (.kp [2, 11] s_law16_CacheOwns_p14) (.seq (.kp [6] s_law16_CacheOwns_p15) .ret)))
def s_law16_CacheOwns_p17 : SCode := (.seq (.kp [1, 2, 3, 7, 11, 12] s_law16_CacheOwns_p8) (.seq (.kp [1, 2, 3, 7, 11] (.seq (.kp [1, 2, 3, 7, 11, 58] s_law16_CacheOwns_p9) (.cond (.t 58) (.seq (.region false [⟨some 6, .mv (.v (.bool false)), none, false⟩]) .ret) .skip))) s_law16_CacheOwns_p16))
def s_law16_CacheOwns_p18 : SCode := (.seq (.kp [1, 2, 3, 7] (.seq (.kp [1, 2, 3, 7, 9, 10] (.region false [⟨some 10, .mv (.v (.int .i64 0)), none, false⟩])) (.block 0 (.loop (some [1, 2, 3, 7, 9, 10]) s_law16_CacheOwns_p7)))) s_law16_CacheOwns_p17)
def s_law16_CacheOwns_p19 : SCode := (.seq (.region false [⟨some 3, .box true 6 (.t 0), none, false⟩,
  ⟨some 6, .mv (.v (.bool false)), none, false⟩]) (.seq (.kp [1, 2, 3, 7, 8] s_law16_CacheOwns_p0) (.seq (.kp [1, 2, 3, 7] s_law16_CacheOwns_p1) (.seq s_law16_CacheOwns_p2 (.seq (.kp [1, 2, 3, 7, 9] s_law16_CacheOwns_p3) s_law16_CacheOwns_p18)))))
def s_law16_CacheOwns : SFn := ⟨3, [.t 6], s_law16_CacheOwns_p19⟩
def s_cache_Cache_All_1_p0 : SCode := (.region false [⟨some 7, .load none (.t 1), none, false⟩,
  ⟨some 8, .nilck (.t 7), none, false⟩,
  ⟨some 9, .faddr 3 (.t 8), none, false⟩,
  ⟨some 10, .load none (.t 9), none, false⟩,
  ⟨some 11, .len (.t 10), none, false⟩,
  ⟨some 12, .mv (.v (.int .i64 0)), none, false⟩])
def s_cache_Cache_All_1_p1 : SCode := (.region false [⟨some 14, .iaddr 6 (.t 10) (.t 12), none, false⟩,
  ⟨some 15, .load (some 6) (.t 14), none, false⟩,
  ⟨some 4, .alloc true [(.int .i64 0), (.int .i64 0), (.int .i64 0), (.int .i64 0), (.int .i64 0), (.int .i64 0)], none, false⟩,
  ⟨none, .store 6 [] (.t 4) (.t 15), none, false⟩])
def s_cache_Cache_All_1_p2 : SCode := (.region true [⟨some 16, .mv (.t 0), none, true⟩,
  ⟨some 17, .load (some 6) (.t 4), none, true⟩,
  ⟨some 18, .load none (.t 1), none, true⟩,
  ⟨some 19, .nilck (.t 18), none, true⟩,
  ⟨some 20, .faddr 2 (.t 19), none, true⟩,
  ⟨some 21, .load none (.t 20), none, true⟩,
  ⟨some 22, .load (some 6) (.t 4), none, true⟩,
  ⟨some 23, .lookup true [.int, .int, .int, .int, .int, .int] (.agg [(.int .i64 0), .nils]) false (.t 21) (.t 22), none, true⟩,
  ⟨some 24, .call f_cache_own [(.t 23)], none, true⟩,
  ⟨some 25, .callv (.t 16) [(.t 17), (.t 24)], none, false⟩,
  ⟨some 26, .un .not (.t 25), none, false⟩])
def s_cache_Cache_All_1_p3 : SCode := (.seq (.kp [0, 1, 10, 11, 12] (.block 1 (.seq s_cache_Cache_All_1_p1 (.seq (.kp [0, 1, 10, 11, 12, 26] s_cache_Cache_All_1_p2) (.cond (.t 26) .ret .skip))))) (.region false [⟨some 27, .bin .add (.t 12) (.v (.int .i64 1)), none, false⟩,
  ⟨some 12, .mv (.t 27), none, false⟩]))
def s_cache_Cache_All_1_p4 : SCode := (.seq (.region false [⟨some 13, .bin .lss (.t 12) (.t 11), none, false⟩]) (.seq (.kp [0, 1, 10, 11, 12] (.cond (.t 13) .skip (.exit 0))) s_cache_Cache_All_1_p3))
def s_cache_Cache_All_1_p5 : SCode := (.seq (.kp [0, 1] (.seq (.region false [⟨some 5, .load none (.t 1), none, false⟩,
  ⟨some 6, .eq false false [.ptr] (.t 5) (.v .nilp), none, false⟩]) (.cond (.t 6) .ret .skip))) (.seq (.kp [0, 1, 10, 11, 12] s_cache_Cache_All_1_p0) (.block 0 (.loop (some [0, 1, 10, 11, 12]) s_cache_Cache_All_1_p4))))
def s_cache_Cache_All_1 : SFn := ⟨2, [], s_cache_Cache_All_1_p5⟩
def s_cache_Cache_All_p0 : SCode := (.seq (.region false [⟨some 1, .box false 1 (.t 0), none, false⟩,
  ⟨some 2, .mv (.v .nilf), none, false⟩]) (.seq (.region false [⟨some 3, .mkfn f_cache_Cache_All_1 [] [(.t 1)], none, false⟩,
  ⟨some 2, .mv (.t 3), none, false⟩]) .ret))
def s_cache_Cache_All : SFn := ⟨1, [.t 2], s_cache_Cache_All_p0⟩
def s_cache_Cache_Len_p0 : SCode := (.seq (.region false [⟨some 3, .mv (.t 0), none, false⟩,
  ⟨some 4, .eq false false [.ptr] (.t 3) (.v .nilp), none, false⟩]) (.cond (.t 4) (.seq (.region false [⟨some 2, .mv (.v (.int .i64 0)), none, false⟩]) .ret) .skip))
def s_cache_Cache_Len_p1 : SCode := (.region false [⟨some 5, .mv (.t 0), none, false⟩,
  ⟨some 6, .nilck (.t 5), none, false⟩,
  ⟨some 7, .faddr 3 (.t 6), none, false⟩,
  ⟨some 8, .load none (.t 7), none, false⟩,
  ⟨some 9, .len (.t 8), none, false⟩,
  ⟨some 2, .mv (.t 9), none, false⟩])
def s_cache_Cache_Len : SFn := ⟨1, [.t 2], (.seq (.region false [⟨some 2, .mv (.v (.int .i64 0)), none, false⟩]) (.seq (.kp [0] s_cache_Cache_Len_p0) (.seq (.kp [2] s_cache_Cache_Len_p1) .ret)))⟩
def s_law16_CacheNobody_p0 : SCode := (.seq (.region false [⟨some 9, .call f_law16_awake [], none, false⟩,
  ⟨some 10, .un .not (.t 9), none, false⟩]) (.cond (.t 10) (.seq (.region false [⟨some 2, .mv (.v (.bool false)), none, false⟩]) .ret) .skip))
def s_law16_CacheNobody_p1 : SCode := (.region false [⟨some 17, .build [(.int .i64 0), (.int .i64 0), .nilm, .nils] [], none, false⟩,
  ⟨some 18, .box false 4 (.t 17), none, false⟩,
  ⟨some 4, .mv (.t 18), none, false⟩])
def s_law16_CacheNobody_p2 : SCode := (.region false [⟨some 19, .mv (.t 4), none, false⟩,
  ⟨some 20, .load (some 6) (.t 1), none, false⟩,
  ⟨some 21, .build [(.int .i64 0), .nils] [(0, 1, (.v (.int .i64 1)))], none, false⟩,
  ⟨some 22, .call f_cache_Cache_Put [(.t 19), (.t 20), (.v (.int .i64 0)), (.t 21)], none, false⟩,
  ⟨some 5, .mv (.t 22), none, false⟩])
def s_law16_CacheNobody_p3 : SCode := (.region false [⟨some 24, .mv (.t 4), none, false⟩,
  ⟨some 25, .load (some 6) (.t 1), none, false⟩,
  ⟨some 26, .call f_cache_Cache_Get [(.t 24), (.t 25), (.v (.int .i64 0))], none, false⟩,
  ⟨some 23, .mv (.t 26), none, false⟩,
  ⟨some 27, .ext (.t 23) 0, none, false⟩,
  ⟨some 28, .ext (.t 23) 1, none, false⟩,
  ⟨some 6, .alloc true [(.int .i64 0), .nils], none, false⟩,
  ⟨none, .store 2 [] (.t 6) (.t 27), none, false⟩,
  ⟨some 7, .mv (.t 28), none, false⟩])
def s_law16_CacheNobody_p4 : SCode := (.block 3 (.region false [⟨some 33, .load none (.t 8), none, false⟩,
  ⟨some 34, .bin .add (.t 33) (.v (.int .i64 1)), none, false⟩,
  ⟨none, .store 1 [] (.t 8) (.t 34), none, false⟩]))
def s_law16_CacheNobody_p5 : SCode := (.seq (.kp [1, 3, 4, 5, 7, 8, 30] (.region false [⟨some 29, .mv (.t 4), none, false⟩,
  ⟨some 30, .call f_cache_Cache_All [(.t 29)], none, false⟩])) (.block 2 (.rangef (.t 30) [31, 32] .skip s_law16_CacheNobody_p4)))
def s_law16_CacheNobody_p6 : SCode := (.region false [⟨some 35, .mv (.t 5), none, false⟩,
  ⟨some 36, .bin .neq (.t 35) (.v (.int .i64 1)), none, false⟩,
  ⟨some 37, .mv (.t 36), none, false⟩,
  ⟨some 38, .mv (.t 7), (some (37, false)), false⟩,
  ⟨some 39, .pick (.t 37) (.v (.bool true)) (.t 38), none, false⟩,
  ⟨some 40, .mv (.t 39), none, false⟩,
  ⟨some 41, .load none (.t 8), (some (40, false)), false⟩,
  ⟨some 42, .bin .neq (.t 41) (.v (.int .i64 0)), (some (40, false)), false⟩,
  ⟨some 43, .pick (.t 40) (.v (.bool true)) (.t 42), none, false⟩,
  ⟨some 44, .mv (.t 43), none, false⟩,
  ⟨some 45, .mv (.t 4), (some (44, false)), false⟩,
  ⟨some 46, .call f_cache_Cache_Len [(.t 45)], (some (44, false)), false⟩,
  ⟨some 47, .bin .neq (.t 46) (.v (.int .i64 0)), (some (44, false)), false⟩,
  ⟨some 48, .pick (.t 44) (.v (.bool true)) (.t 47), none, false⟩])
def s_law16_CacheNobody_p7 : SCode := (.seq (.region false [⟨some 8, .alloc true [(.int .i64 0)], none, false⟩,
  ⟨none, .store 1 [] (.t 8) (.v (.int .i64 0)), none, false⟩]) (.seq (.kp [1, 3, 4, 5, 7, 8] s_law16_CacheNobody_p5) (.seq (.kp [1, 3, 48] s_law16_CacheNobody_p6) (.cond (.t 48) (.seq (.region false [⟨some 2, .mv (.v (.bool false)), none, false⟩]) .ret) .skip))))
def s_law16_CacheNobody_p8 : SCode := (.seq (.kp [1, 3, 4] (.seq (.region false [⟨some 15, .mv (.t 3), none, false⟩,
  ⟨some 16, .bin .eql (.t 15) (.v (.int .i64 1)), none, false⟩]) (.cond (.t 16) s_law16_CacheNobody_p1 .skip))) (.seq (.kp [1, 3, 4, 5] s_law16_CacheNobody_p2) (.seq (.kp [1, 3, 4, 5, 7] s_law16_CacheNobody_p3) s_law16_CacheNobody_p7)))
def s_law16_CacheNobody_p9 : SCode := (.seq (.kp [1, 3] (.block 1 (.seq (.region false [⟨some 4, .mv (.v .nilp), none, false⟩]) s_law16_CacheNobody_p8))) (.region false [⟨some 13, .mv (.t 3), none, false⟩,
  ⟨some 14, .bin .add (.t 13) (.v (.int .i64 1)), none, false⟩,
  ⟨some 3, .mv (.t 14), none, false⟩]))
def s_law16_CacheNobody_p10 : SCode := (.seq (.kp [1, 3] (.seq (.region false [⟨some 11, .mv (.t 3), none, false⟩,
  ⟨some 12, .bin .lss (.t 11) (.v (.int .i64 2)), none, false⟩]) (.cond (.t 12) .skip (.exit 0)))) s_law16_CacheNobody_p9)
def s_law16_CacheNobody_p11 : SCode := (.seq (.kp [] (.seq (.kp [1, 3] (.region false [⟨some 3, .mv (.v (.int .i64 0)), none, false⟩])) (.block 0 (.loop (some [1, 3]) s_law16_CacheNobody_p10)))) (.seq (.region false [⟨some 49, .call f_law16_awake [], none, false⟩,
  ⟨some 2, .mv (.t 49), none, false⟩]) .ret))
def s_law16_CacheNobody : SFn := ⟨1, [.t 2], (.seq (.region false [⟨some 1, .box true 6 (.t 0), none, false⟩,
  ⟨some 2, .mv (.v (.bool false)), none, false⟩]) (.seq (.kp [1] s_law16_CacheNobody_p0) s_law16_CacheNobody_p11))⟩
def tb : Tbl := fun f => match f with
  | 3 => some s_law16_CacheOwns
  | 8 => some s_law16_CacheNobody
  | 12 => some s_cache_New
  | 13 => some s_cache_Cache_Put
  | 14 => some s_cache_Cache_Get
  | 15 => some s_ref10_Cells
  | 16 => some s_law16_awake
  | 36 => some s_cache_Cache_All
  | 37 => some s_cache_Cache_Len
  | 41 => some s_cache_own
  | 51 => some s_cache_Cache_All_1
  | 56 => some s_slices_Clone_api_Cell_api_Cell
  | _ => none
@[go_sem] def u_cache_New_p0 {F K fr m} := @RK_unf F K fr m _ _ s_cache_New_p0.eq_1
@[go_sem] def u_cache_New_p1 {F K fr m} := @RK_unf F K fr m _ _ s_cache_New_p1.eq_1
@[go_sem] def u_cache_New_p2 {F K fr m} := @RK_unf F K fr m _ _ s_cache_New_p2.eq_1
theorem t_cache_New : tb f_cache_New = some s_cache_New := rfl
@[go_sem] def u_slices_Clone_api_Cell_api_Cell_p0 {F K fr m} := @RK_unf F K fr m _ _ s_slices_Clone_api_Cell_api_Cell_p0.eq_1
@[go_sem] def u_slices_Clone_api_Cell_api_Cell_p1 {F K fr m} := @RK_unf F K fr m _ _ s_slices_Clone_api_Cell_api_Cell_p1.eq_1
theorem t_slices_Clone_api_Cell_api_Cell : tb f_slices_Clone_api_Cell_api_Cell = some s_slices_Clone_api_Cell_api_Cell := rfl
@[go_sem] def u_cache_own_p0 {F K fr m} := @RK_unf F K fr m _ _ s_cache_own_p0.eq_1
theorem t_cache_own : tb f_cache_own = some s_cache_own := rfl
@[go_sem] def u_cache_Cache_Put_p0 {F K fr m} := @RK_unf F K fr m _ _ s_cache_Cache_Put_p0.eq_1
@[go_sem] def u_cache_Cache_Put_p1 {F K fr m} := @RK_unf F K fr m _ _ s_cache_Cache_Put_p1.eq_1
@[go_sem] def u_cache_Cache_Put_p2 {F K fr m} := @RK_unf F K fr m _ _ s_cache_Cache_Put_p2.eq_1
@[go_sem] def u_cache_Cache_Put_p3 {F K fr m} := @RK_unf F K fr m _ _ s_cache_Cache_Put_p3.eq_1
@[go_sem] def u_cache_Cache_Put_p4 {F K fr m} := @RK_unf F K fr m _ _ s_cache_Cache_Put_p4.eq_1
@[go_sem] def u_cache_Cache_Put_p5 {F K fr m} := @RK_unf F K fr m _ _ s_cache_Cache_Put_p5.eq_1
@[go_sem] def u_cache_Cache_Put_p6 {F K fr m} := @RK_unf F K fr m _ _ s_cache_Cache_Put_p6.eq_1
@[go_sem] def u_cache_Cache_Put_p7 {F K fr m} := @RK_unf F K fr m _ _ s_cache_Cache_Put_p7.eq_1
@[go_sem] def u_cache_Cache_Put_p8 {F K fr m} := @RK_unf F K fr m _ _ s_cache_Cache_Put_p8.eq_1
@[go_sem] def u_cache_Cache_Put_p9 {F K fr m} := @RK_unf F K fr m _ _ s_cache_Cache_Put_p9.eq_1
@[go_sem] def u_cache_Cache_Put_p10 {F K fr m} := @RK_unf F K fr m _ _ s_cache_Cache_Put_p10.eq_1
@[go_sem] def u_cache_Cache_Put_p11 {F K fr m} := @RK_unf F K fr m _ _ s_cache_Cache_Put_p11.eq_1
@[go_sem] def u_cache_Cache_Put_p12 {F K fr m} := @RK_unf F K fr m _ _ s_cache_Cache_Put_p12.eq_1
theorem t_cache_Cache_Put : tb f_cache_Cache_Put = some s_cache_Cache_Put := rfl
@[go_sem] def u_cache_Cache_Get_p0 {F K fr m} := @RK_unf F K fr m _ _ s_cache_Cache_Get_p0.eq_1
@[go_sem] def u_cache_Cache_Get_p1 {F K fr m} := @RK_unf F K fr m _ _ s_cache_Cache_Get_p1.eq_1
@[go_sem] def u_cache_Cache_Get_p2 {F K fr m} := @RK_unf F K fr m _ _ s_cache_Cache_Get_p2.eq_1
@[go_sem] def u_cache_Cache_Get_p3 {F K fr m} := @RK_unf F K fr m _ _ s_cache_Cache_Get_p3.eq_1
@[go_sem] def u_cache_Cache_Get_p4 {F K fr m} := @RK_unf F K fr m _ _ s_cache_Cache_Get_p4.eq_1
theorem t_cache_Cache_Get : tb f_cache_Cache_Get = some s_cache_Cache_Get := rfl
@[go_sem] def u_ref10_Cells_p0 {F K fr m} := @RK_unf F K fr m _ _ s_ref10_Cells_p0.eq_1
@[go_sem] def u_ref10_Cells_p1 {F K fr m} := @RK_unf F K fr m _ _ s_ref10_Cells_p1.eq_1
@[go_sem] def u_ref10_Cells_p2 {F K fr m} := @RK_unf F K fr m _ _ s_ref10_Cells_p2.eq_1
@[go_sem] def u_ref10_Cells_p3 {F K fr m} := @RK_unf F K fr m _ _ s_ref10_Cells_p3.eq_1
@[go_sem] def u_ref10_Cells_p4 {F K fr m} := @RK_unf F K fr m _ _ s_ref10_Cells_p4.eq_1
@[go_sem] def u_ref10_Cells_p5 {F K fr m} := @RK_unf F K fr m _ _ s_ref10_Cells_p5.eq_1
@[go_sem] def u_ref10_Cells_p6 {F K fr m} := @RK_unf F K fr m _ _ s_ref10_Cells_p6.eq_1
theorem t_ref10_Cells : tb f_ref10_Cells = some s_ref10_Cells := rfl
@[go_sem] def u_law16_awake_p0 {F K fr m} := @RK_unf F K fr m _ _ s_law16_awake_p0.eq_1
@[go_sem] def u_law16_awake_p1 {F K fr m} := @RK_unf F K fr m _ _ s_law16_awake_p1.eq_1
@[go_sem] def u_law16_awake_p2 {F K fr m} := @RK_unf F K fr m _ _ s_law16_awake_p2.eq_1
@[go_sem] def u_law16_awake_p3 {F K fr m} := @RK_unf F K fr m _ _ s_law16_awake_p3.eq_1
@[go_sem] def u_law16_awake_p4 {F K fr m} := @RK_unf F K fr m _ _ s_law16_awake_p4.eq_1
@[go_sem] def u_law16_awake_p5 {F K fr m} := @RK_unf F K fr m _ _ s_law16_awake_p5.eq_1
@[go_sem] def u_law16_awake_p6 {F K fr m} := @RK_unf F K fr m _ _ s_law16_awake_p6.eq_1
theorem t_law16_awake : tb f_law16_awake = some s_law16_awake := rfl
@[go_sem] def u_law16_CacheOwns_p0 {F K fr m} := @RK_unf F K fr m _ _ s_law16_CacheOwns_p0.eq_1
@[go_sem] def u_law16_CacheOwns_p1 {F K fr m} := @RK_unf F K fr m _ _ s_law16_CacheOwns_p1.eq_1
@[go_sem] def u_law16_CacheOwns_p2 {F K fr m} := @RK_unf F K fr m _ _ s_law16_CacheOwns_p2.eq_1
@[go_sem] def u_law16_CacheOwns_p3 {F K fr m} := @RK_unf F K fr m _ _ s_law16_CacheOwns_p3.eq_1
@[go_sem] def u_law16_CacheOwns_p4 {F K fr m} := @RK_unf F K fr m _ _ s_law16_CacheOwns_p4.eq_1
@[go_sem] def u_law16_CacheOwns_p5 {F K fr m} := @RK_unf F K fr m _ _ s_law16_CacheOwns_p5.eq_1
@[go_sem] def u_law16_CacheOwns_p6 {F K fr m} := @RK_unf F K fr m _ _ s_law16_CacheOwns_p6.eq_1
@[go_sem] def u_law16_CacheOwns_p7 {F K fr m} := @RK_unf F K fr m _ _ s_law16_CacheOwns_p7.eq_1
@[go_sem] def u_law16_CacheOwns_p8 {F K fr m} := @RK_unf F K fr m _ _ s_law16_CacheOwns_p8.eq_1
@[go_sem] def u_law16_CacheOwns_p9 {F K fr m} := @RK_unf F K fr m _ _ s_law16_CacheOwns_p9.eq_1
@[go_sem] def u_law16_CacheOwns_p10 {F K fr m} := @RK_unf F K fr m _ _ s_law16_CacheOwns_p10.eq_1
@[go_sem] def u_law16_CacheOwns_p11 {F K fr m} := @RK_unf F K fr m _ _ s_law16_CacheOwns_p11.eq_1
@[go_sem] def u_law16_CacheOwns_p12 {F K fr m} := @RK_unf F K fr m _ _ s_law16_CacheOwns_p12.eq_1
@[go_sem] def u_law16_CacheOwns_p13 {F K fr m} := @RK_unf F K fr m _ _ s_law16_CacheOwns_p13.eq_1
@[go_sem] def u_law16_CacheOwns_p14 {F K fr m} := @RK_unf F K fr m _ _ s_law16_CacheOwns_p14.eq_1
@[go_sem] def u_law16_CacheOwns_p15 {F K fr m} := @RK_unf F K fr m _ _ s_law16_CacheOwns_p15.eq_1
@[go_sem] def u_law16_CacheOwns_p16 {F K fr m} := @RK_unf F K fr m _ _ s_law16_CacheOwns_p16.eq_1
@[go_sem] def u_law16_CacheOwns_p17 {F K fr m} := @RK_unf F K fr m _ _ s_law16_CacheOwns_p17.eq_1
@[go_sem] def u_law16_CacheOwns_p18 {F K fr m} := @RK_unf F K fr m _ _ s_law16_CacheOwns_p18.eq_1
@[go_sem] def u_law16_CacheOwns_p19 {F K fr m} := @RK_unf F K fr m _ _ s_law16_CacheOwns_p19.eq_1
theorem t_law16_CacheOwns : tb f_law16_CacheOwns = some s_law16_CacheOwns := rfl
@[go_sem] def u_cache_Cache_All_1_p0 {F K fr m} := @RK_unf F K fr m _ _ s_cache_Cache_All_1_p0.eq_1
@[go_sem] def u_cache_Cache_All_1_p1 {F K fr m} := @RK_unf F K fr m _ _ s_cache_Cache_All_1_p1.eq_1
@[go_sem] def u_cache_Cache_All_1_p2 {F K fr m} := @RK_unf F K fr m _ _ s_cache_Cache_All_1_p2.eq_1
@[go_sem] def u_cache_Cache_All_1_p3 {F K fr m} := @RK_unf F K fr m _ _ s_cache_Cache_All_1_p3.eq_1
@[go_sem] def u_cache_Cache_All_1_p4 {F K fr m} := @RK_unf F K fr m _ _ s_cache_Cache_All_1_p4.eq_1
@[go_sem] def u_cache_Cache_All_1_p5 {F K fr m} := @RK_unf F K fr m _ _ s_cache_Cache_All_1_p5.eq_1
theorem t_cache_Cache_All_1 : tb f_cache_Cache_All_1 = some s_cache_Cache_All_1 := rfl
@[go_sem] def u_cache_Cache_All_p0 {F K fr m} := @RK_unf F K fr m _ _ s_cache_Cache_All_p0.eq_1
theorem t_cache_Cache_All : tb f_cache_Cache_All = some s_cache_Cache_All := rfl
@[go_sem] def u_cache_Cache_Len_p0 {F K fr m} := @RK_unf F K fr m _ _ s_cache_Cache_Len_p0.eq_1
@[go_sem] def u_cache_Cache_Len_p1 {F K fr m} := @RK_unf F K fr m _ _ s_cache_Cache_Len_p1.eq_1
theorem t_cache_Cache_Len : tb f_cache_Cache_Len = some s_cache_Cache_Len := rfl
@[go_sem] def u_law16_CacheNobody_p0 {F K fr m} := @RK_unf F K fr m _ _ s_law16_CacheNobody_p0.eq_1
@[go_sem] def u_law16_CacheNobody_p1 {F K fr m} := @RK_unf F K fr m _ _ s_law16_CacheNobody_p1.eq_1
@[go_sem] def u_law16_CacheNobody_p2 {F K fr m} := @RK_unf F K fr m _ _ s_law16_CacheNobody_p2.eq_1
@[go_sem] def u_law16_CacheNobody_p3 {F K fr m} := @RK_unf F K fr m _ _ s_law16_CacheNobody_p3.eq_1
@[go_sem] def u_law16_CacheNobody_p4 {F K fr m} := @RK_unf F K fr m _ _ s_law16_CacheNobody_p4.eq_1
@[go_sem] def u_law16_CacheNobody_p5 {F K fr m} := @RK_unf F K fr m _ _ s_law16_CacheNobody_p5.eq_1
@[go_sem] def u_law16_CacheNobody_p6 {F K fr m} := @RK_unf F K fr m _ _ s_law16_CacheNobody_p6.eq_1
@[go_sem] def u_law16_CacheNobody_p7 {F K fr m} := @RK_unf F K fr m _ _ s_law16_CacheNobody_p7.eq_1
@[go_sem] def u_law16_CacheNobody_p8 {F K fr m} := @RK_unf F K fr m _ _ s_law16_CacheNobody_p8.eq_1
@[go_sem] def u_law16_CacheNobody_p9 {F K fr m} := @RK_unf F K fr m _ _ s_law16_CacheNobody_p9.eq_1
@[go_sem] def u_law16_CacheNobody_p10 {F K fr m} := @RK_unf F K fr m _ _ s_law16_CacheNobody_p10.eq_1
@[go_sem] def u_law16_CacheNobody_p11 {F K fr m} := @RK_unf F K fr m _ _ s_law16_CacheNobody_p11.eq_1
theorem t_law16_CacheNobody : tb f_law16_CacheNobody = some s_law16_CacheNobody := rfl
end Go.Sh.T
