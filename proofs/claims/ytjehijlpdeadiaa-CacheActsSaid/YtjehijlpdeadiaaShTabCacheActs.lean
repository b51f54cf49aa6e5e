import Derived.Test.YtjehijlpdeadiaaShH
set_option linter.all false
set_option linter.unusedVariables false
set_option linter.unusedSimpArgs false
set_option autoImplicit false
set_option linter.all false
set_option maxRecDepth 4096
namespace Go.Sh.T
open Go.Sh
def f_law16_CacheActs : FuncId := 7
def f_cache_New : FuncId := 12
def f_cache_Cache_Put : FuncId := 13
def f_cache_Cache_Get : FuncId := 14
def f_ref10_Cells : FuncId := 15
def f_law16_awake : FuncId := 16
def f_ref16_New : FuncId := 32
def f_ref16_Get : FuncId := 33
def f_ref10_Same : FuncId := 34
def f_ref16_Put : FuncId := 35
def f_cache_Cache_All : FuncId := 36
def f_cache_Cache_Len : FuncId := 37
def f_cache_own : FuncId := 41
def f_ref16_place : FuncId := 50
def f_cache_Cache_All_1 : FuncId := 51
def f_slices_Clone_api_Cell_api_Cell : FuncId := 56
def s_slices_Clone_api_Cell_api_Cell_p0 : SCode := (.seq (.region false [⟨some 3, .mv (.t 0), none, false⟩,
  ⟨some 4, .eq false false [.slice] (.t 3) (.v .nils), none, false⟩]) (.cond (.t 4) (.seq (.region false [⟨some 2, .mv (.v .nils), none, false⟩]) .ret) .skip))
def s_slices_Clone_api_Cell_api_Cell_p1 : SCode := (.region false [⟨some 5, .bslice [] 0 2 [], none, false⟩,
  ⟨some 6, .mv (.t 0), none, false⟩,
  ⟨some 7, .append 2 16 [(.int .i64 0), (.int .i64 0)] [] (.t 5) (.t 6), none, false⟩,
  ⟨some 2, .mv (.t 7), none, false⟩])
def s_slices_Clone_api_Cell_api_Cell : SFn := ⟨1, [.t 2], (.seq (.region false [⟨some 2, .mv (.v .nils), none, false⟩]) (.seq (.kp [0] s_slices_Clone_api_Cell_api_Cell_p0) (.seq s_slices_Clone_api_Cell_api_Cell_p1 .ret)))⟩
def s_cache_own_p0 : SCode := (.region true [⟨some 3, .faddr 0 (.t 1), none, true⟩,
  ⟨some 4, .load none (.t 3), none, true⟩,
  ⟨some 5, .faddr 1 (.t 1), none, true⟩,
  ⟨some 6, .load none (.t 5), none, true⟩,
  ⟨some 7, .call f_slices_Clone_api_Cell_api_Cell [(.t 6)], none, true⟩,
  ⟨some 8, .build [(.int .i64 0), .nils] [(0, 1, (.t 4)), (1, 1, (.t 7))], none, false⟩,
  ⟨none, .store 2 [] (.t 2) (.t 8), none, false⟩])
def s_cache_own : SFn := ⟨1, [.cell 2 (some 2)], (.seq (.region false [⟨some 1, .box true 2 (.t 0), none, false⟩,
  ⟨some 2, .alloc true [(.int .i64 0), .nils], none, false⟩]) (.seq (.kp [2] s_cache_own_p0) .ret))⟩
def s_cache_Cache_All_1_p0 : SCode := (.region false [⟨some 7, .load none (.t 1), none, false⟩,
  ⟨some 8, .nilck (.t 7), none, false⟩,
  ⟨some 9, .faddr 3 (.t 8), none, false⟩,
  ⟨some 10, .load none (.t 9), none, false⟩,
  ⟨some 11, .len (.t 10), none, false⟩,
  ⟨some 12, .mv (.v (.int .i64 0)), none, false⟩])
def s_cache_Cache_All_1_p1 : SCode := (.region false [⟨some 14, .iaddr 6 (.t 10) (.t 12), none, false⟩,
  ⟨some 15, .load (some 6) (.t 14), none, false⟩,
  ⟨some 4, .alloc true [(.int .i64 0), (.int .i64 0), (.int .i64 0), (.int .i64 0), (.int .i64 0), (.int .i64 0)], none, false⟩,
  ⟨none, .store 6 [] (.t 4) (.t 15), none, false⟩])
def s_cache_Cache_All_1_p2 : SCode := (.region true [⟨some 16, .mv (.t 0), none, true⟩,
  ⟨some 17, .load (some 6) (.t 4), none, true⟩,
  ⟨some 18, .load none (.t 1), none, true⟩,
  ⟨some 19, .nilck (.t 18), none, true⟩,
  ⟨some 20, .faddr 2 (.t 19), none, true⟩,
  ⟨some 21, .load none (.t 20), none, true⟩,
  ⟨some 22, .load (some 6) (.t 4), none, true⟩,
  ⟨some 23, .lookup true [.int, .int, .int, .int, .int, .int] (.agg [(.int .i64 0), .nils]) false (.t 21) (.t 22), none, true⟩,
  ⟨some 24, .call f_cache_own [(.t 23)], none, true⟩,
  ⟨some 25, .callv (.t 16) [(.t 17), (.t 24)], none, false⟩,
  ⟨some 26, .un .not (.t 25), none, false⟩])
def s_cache_Cache_All_1_p3 : SCode := (.seq (.kp [0, 1, 10, 11, 12] (.block 1 (.seq s_cache_Cache_All_1_p1 (.seq (.kp [0, 1, 10, 11, 12, 26] s_cache_Cache_All_1_p2) (.cond (.t 26) .ret .skip))))) (.region false [⟨some 27, .bin .add (.t 12) (.v (.int .i64 1)), none, false⟩,
  ⟨some 12, .mv (.t 27), none, false⟩]))
def s_cache_Cache_All_1_p4 : SCode := (.seq (.region false [⟨some 13, .bin .lss (.t 12) (.t 11), none, false⟩]) (.seq (.kp [0, 1, 10, 11, 12] (.cond (.t 13) .skip (.exit 0))) s_cache_Cache_All_1_p3))
def s_cache_Cache_All_1_p5 : SCode := (.seq (.kp [0, 1] (.seq (.region false [⟨some 5, .load none (.t 1), none, false⟩,
  ⟨some 6, .eq false false [.ptr] (.t 5) (.v .nilp), none, false⟩]) (.cond (.t 6) .ret .skip))) (.seq (.kp [0, 1, 10, 11, 12] s_cache_Cache_All_1_p0) (.block 0 (.loop (some [0, 1, 10, 11, 12]) s_cache_Cache_All_1_p4))))
def s_cache_Cache_All_1 : SFn := ⟨2, [], s_cache_Cache_All_1_p5⟩
def s_cache_Cache_All_p0 : SCode := (.seq (.region false [⟨some 1, .box false 1 (.t 0), none, false⟩,
  ⟨some 2, .mv (.v .nilf), none, false⟩]) (.seq (.region false [⟨some 3, .mkfn f_cache_Cache_All_1 [] [(.t 1)], none, false⟩,
  ⟨some 2, .mv (.t 3), none, false⟩]) .ret))
def s_cache_Cache_All : SFn := ⟨1, [.t 2], s_cache_Cache_All_p0⟩
def s_cache_Cache_Get_p0 : SCode := (.region false [⟨some 10, .mv (.t 0), none, false⟩,
  ⟨some 11, .eq false false [.ptr] (.t 10) (.v .nilp), none, false⟩,
  ⟨some 12, .mv (.t 11), none, false⟩,
  ⟨some 13, .mv (.t 2), (some (12, false)), false⟩,
  ⟨some 14, .mv (.t 0), (some (12, false)), false⟩,
  ⟨some 15, .nilck (.t 14), (some (12, false)), false⟩,
  ⟨some 16, .faddr 1 (.t 15), (some (12, false)), false⟩,
  ⟨some 17, .load none (.t 16), (some (12, false)), false⟩,
  ⟨some 18, .bin .neq (.t 13) (.t 17), (some (12, false)), false⟩,
  ⟨some 19, .pick (.t 12) (.v (.bool true)) (.t 18), none, false⟩])
def s_cache_Cache_Get_p1 : SCode := (.seq (.region false [⟨some 20, .build [(.int .i64 0), .nils] [], none, false⟩,
  ⟨none, .store 2 [] (.t 6) (.t 20), none, false⟩,
  ⟨some 7, .mv (.v (.bool false)), none, false⟩]) .ret)
def s_cache_Cache_Get_p2 : SCode := (.region true [⟨some 22, .mv (.t 0), none, true⟩,
  ⟨some 23, .nilck (.t 22), none, true⟩,
  ⟨some 24, .faddr 2 (.t 23), none, true⟩,
  ⟨some 25, .load none (.t 24), none, true⟩,
  ⟨some 26, .load (some 6) (.t 4), none, true⟩,
  ⟨some 27, .lookup true [.int, .int, .int, .int, .int, .int] (.agg [(.int .i64 0), .nils]) true (.t 25) (.t 26), none, false⟩,
  ⟨some 21, .mv (.t 27), none, false⟩,
  ⟨some 28, .ext (.t 21) 0, none, false⟩,
  ⟨some 29, .ext (.t 21) 1, none, true⟩,
  ⟨some 8, .alloc true [(.int .i64 0), .nils], none, true⟩,
  ⟨none, .store 2 [] (.t 8) (.t 28), none, false⟩,
  ⟨some 9, .mv (.t 29), none, false⟩])
def s_cache_Cache_Get_p3 : SCode := (.region false [⟨some 30, .load (some 2) (.t 8), none, false⟩,
  ⟨some 31, .call f_cache_own [(.t 30)], none, false⟩,
  ⟨some 32, .mv (.t 9), none, false⟩,
  ⟨none, .store 2 [] (.t 6) (.t 31), none, false⟩,
  ⟨some 7, .mv (.t 32), none, false⟩])
def s_cache_Cache_Get_p4 : SCode := (.seq (.region false [⟨some 4, .box true 6 (.t 1), none, false⟩,
  ⟨some 6, .alloc true [(.int .i64 0), .nils], none, false⟩,
  ⟨some 7, .mv (.v (.bool false)), none, false⟩]) (.seq (.kp [0, 4, 6] (.seq (.kp [0, 4, 6, 19] s_cache_Cache_Get_p0) (.cond (.t 19) s_cache_Cache_Get_p1 .skip))) (.seq (.kp [6, 8, 9] s_cache_Cache_Get_p2) (.seq (.kp [6, 7] s_cache_Cache_Get_p3) .ret))))
def s_cache_Cache_Get : SFn := ⟨3, [.cell 6 (some 2), .t 7], s_cache_Cache_Get_p4⟩
def s_cache_Cache_Len_p0 : SCode := (.seq (.region false [⟨some 3, .mv (.t 0), none, false⟩,
  ⟨some 4, .eq false false [.ptr] (.t 3) (.v .nilp), none, false⟩]) (.cond (.t 4) (.seq (.region false [⟨some 2, .mv (.v (.int .i64 0)), none, false⟩]) .ret) .skip))
def s_cache_Cache_Len_p1 : SCode := (.region false [⟨some 5, .mv (.t 0), none, false⟩,
  ⟨some 6, .nilck (.t 5), none, false⟩,
  ⟨some 7, .faddr 3 (.t 6), none, false⟩,
  ⟨some 8, .load none (.t 7), none, false⟩,
  ⟨some 9, .len (.t 8), none, false⟩,
  ⟨some 2, .mv (.t 9), none, false⟩])
def s_cache_Cache_Len : SFn := ⟨1, [.t 2], (.seq (.region false [⟨some 2, .mv (.v (.int .i64 0)), none, false⟩]) (.seq (.kp [0] s_cache_Cache_Len_p0) (.seq (.kp [2] s_cache_Cache_Len_p1) .ret)))⟩
def s_cache_Cache_Put_p0 : SCode := (.region false [⟨some 11, .mv (.t 0), none, false⟩,
  ⟨some 12, .eq false false [.ptr] (.t 11) (.v .nilp), none, false⟩,
  ⟨some 13, .mv (.t 12), none, false⟩,
  ⟨some 14, .mv (.t 0), (some (13, false)), false⟩,
  ⟨some 15, .nilck (.t 14), (some (13, false)), false⟩,
  ⟨some 16, .faddr 0 (.t 15), (some (13, false)), false⟩,
  ⟨some 17, .load none (.t 16), (some (13, false)), false⟩,
  ⟨some 18, .bin .eql (.t 17) (.v (.int .i64 0)), (some (13, false)), false⟩,
  ⟨some 19, .pick (.t 13) (.v (.bool true)) (.t 18), none, false⟩])
def s_cache_Cache_Put_p1 : SCode := (.region false [⟨some 20, .mv (.t 2), none, false⟩,
  ⟨some 21, .mv (.t 0), none, false⟩,
  ⟨some 22, .nilck (.t 21), none, false⟩,
  ⟨some 23, .faddr 1 (.t 22), none, false⟩,
  ⟨some 24, .load none (.t 23), none, false⟩,
  ⟨some 25, .bin .neq (.t 20) (.t 24), none, false⟩])
def s_cache_Cache_Put_p2 : SCode := (.region false [⟨some 26, .mv (.t 0), none, false⟩,
  ⟨some 27, .nilck (.t 26), none, false⟩,
  ⟨some 28, .faddr 2 (.t 27), none, false⟩,
  ⟨some 29, .load none (.t 28), none, false⟩,
  ⟨none, .clear (.t 29), none, false⟩])
def s_cache_Cache_Put_p3 : SCode := (.region false [⟨some 30, .mv (.t 0), none, false⟩,
  ⟨some 31, .mv (.t 0), none, false⟩,
  ⟨some 32, .mv (.t 2), none, false⟩,
  ⟨some 33, .nilck (.t 30), none, false⟩,
  ⟨some 34, .faddr 3 (.t 33), none, false⟩,
  ⟨none, .store 1 [] (.t 34) (.v .nils), none, false⟩,
  ⟨some 35, .nilck (.t 31), none, false⟩,
  ⟨some 36, .faddr 1 (.t 35), none, false⟩,
  ⟨none, .store 1 [] (.t 36) (.t 32), none, false⟩])
def s_cache_Cache_Put_p4 : SCode := (.region true [⟨some 38, .mv (.t 0), none, true⟩,
  ⟨some 39, .nilck (.t 38), none, true⟩,
  ⟨some 40, .faddr 2 (.t 39), none, true⟩,
  ⟨some 41, .load none (.t 40), none, true⟩,
  ⟨some 42, .load (some 6) (.t 5), none, true⟩,
  ⟨some 43, .lookup true [.int, .int, .int, .int, .int, .int] (.agg [(.int .i64 0), .nils]) true (.t 41) (.t 42), none, false⟩,
  ⟨some 37, .mv (.t 43), none, false⟩,
  ⟨some 44, .ext (.t 37) 0, none, false⟩,
  ⟨some 45, .ext (.t 37) 1, none, true⟩,
  ⟨some 9, .alloc true [(.int .i64 0), .nils], none, true⟩,
  ⟨none, .store 2 [] (.t 9) (.t 44), none, false⟩,
  ⟨some 10, .mv (.t 45), none, false⟩])
def s_cache_Cache_Put_p5 : SCode := (.region true [⟨some 48, .mv (.t 0), none, true⟩,
  ⟨some 49, .nilck (.t 48), none, true⟩,
  ⟨some 50, .faddr 3 (.t 49), none, true⟩,
  ⟨some 51, .load none (.t 50), none, true⟩,
  ⟨some 52, .len (.t 51), none, true⟩,
  ⟨some 53, .mv (.t 0), none, true⟩,
  ⟨some 54, .nilck (.t 53), none, true⟩,
  ⟨some 55, .faddr 0 (.t 54), none, true⟩,
  ⟨some 56, .load none (.t 55), none, true⟩,
  ⟨some 57, .bin .eql (.t 52) (.t 56), none, false⟩])
def s_cache_Cache_Put_p6 : SCode := (.region true [⟨some 58, .mv (.t 0), none, true⟩,
  ⟨some 59, .nilck (.t 58), none, true⟩,
  ⟨some 60, .faddr 2 (.t 59), none, true⟩,
  ⟨some 61, .load none (.t 60), none, true⟩,
  ⟨some 62, .mv (.t 0), none, true⟩,
  ⟨some 63, .nilck (.t 62), none, true⟩,
  ⟨some 64, .faddr 3 (.t 63), none, true⟩,
  ⟨some 65, .load none (.t 64), none, true⟩,
  ⟨some 66, .iaddr 6 (.t 65) (.v (.int .i64 0)), none, true⟩,
  ⟨some 67, .load (some 6) (.t 66), none, true⟩,
  ⟨none, .delete true [.int, .int, .int, .int, .int, .int] (.t 61) (.t 67), none, false⟩])
def s_cache_Cache_Put_p7 : SCode := (.region false [⟨some 68, .mv (.t 0), none, false⟩,
  ⟨some 69, .mv (.t 0), none, false⟩,
  ⟨some 70, .nilck (.t 69), none, false⟩,
  ⟨some 71, .faddr 3 (.t 70), none, false⟩,
  ⟨some 72, .load none (.t 71), none, false⟩,
  ⟨some 73, .slice 6 (.t 72) (some (.v (.int .i64 1))) none none, none, false⟩,
  ⟨some 74, .nilck (.t 68), none, false⟩,
  ⟨some 75, .faddr 3 (.t 74), none, false⟩,
  ⟨none, .store 1 [] (.t 75) (.t 73), none, false⟩])
def s_cache_Cache_Put_p8 : SCode := (.region true [⟨some 76, .mv (.t 0), none, true⟩,
  ⟨some 77, .mv (.t 0), none, true⟩,
  ⟨some 78, .nilck (.t 77), none, true⟩,
  ⟨some 79, .faddr 3 (.t 78), none, true⟩,
  ⟨some 80, .load none (.t 79), none, true⟩,
  ⟨some 81, .load (some 6) (.t 5), none, true⟩,
  ⟨some 82, .bslice [(.int .i64 0), (.int .i64 0), (.int .i64 0), (.int .i64 0), (.int .i64 0), (.int .i64 0)] 1 6 [(0, 6, (.t 81))], none, true⟩,
  ⟨some 83, .append 6 48 [(.int .i64 0), (.int .i64 0), (.int .i64 0), (.int .i64 0), (.int .i64 0), (.int .i64 0)] [] (.t 80) (.t 82), none, false⟩,
  ⟨some 84, .nilck (.t 76), none, false⟩,
  ⟨some 85, .faddr 3 (.t 84), none, false⟩,
  ⟨none, .store 1 [] (.t 85) (.t 83), none, false⟩])
def s_cache_Cache_Put_p9 : SCode := (.seq (.region false [⟨some 46, .mv (.t 10), none, false⟩,
  ⟨some 47, .un .not (.t 46), none, false⟩]) (.cond (.t 47) (.seq (.kp [0, 5, 7] (.seq (.kp [0, 5, 7, 57] s_cache_Cache_Put_p5) (.cond (.t 57) (.seq (.kp [0, 5, 7] s_cache_Cache_Put_p6) s_cache_Cache_Put_p7) .skip))) s_cache_Cache_Put_p8) .skip))
def s_cache_Cache_Put_p10 : SCode := (.region true [⟨some 86, .mv (.t 0), none, true⟩,
  ⟨some 87, .nilck (.t 86), none, true⟩,
  ⟨some 88, .faddr 2 (.t 87), none, true⟩,
  ⟨some 89, .load none (.t 88), none, true⟩,
  ⟨some 90, .load (some 6) (.t 5), none, true⟩,
  ⟨some 91, .load (some 2) (.t 7), none, true⟩,
  ⟨some 92, .call f_cache_own [(.t 91)], none, true⟩,
  ⟨none, .mapset true [.int, .int, .int, .int, .int, .int] (.t 89) (.t 90) (.t 92), none, false⟩])
def s_cache_Cache_Put_p11 : SCode := (.seq (.kp [0, 5, 7] (.seq (.kp [0, 2, 5, 7, 25] s_cache_Cache_Put_p1) (.cond (.t 25) (.seq (.kp [0, 2, 5, 7] s_cache_Cache_Put_p2) s_cache_Cache_Put_p3) .skip))) (.seq (.kp [0, 5, 7] (.seq (.kp [0, 5, 7, 10] s_cache_Cache_Put_p4) s_cache_Cache_Put_p9)) (.seq (.kp [] s_cache_Cache_Put_p10) (.seq (.region false [⟨some 8, .mv (.v (.int .i64 0)), none, false⟩]) .ret))))
def s_cache_Cache_Put_p12 : SCode := (.seq (.region false [⟨some 5, .box true 6 (.t 1), none, false⟩,
  ⟨some 7, .box true 2 (.t 3), none, false⟩,
  ⟨some 8, .mv (.v (.int .i64 0)), none, false⟩]) (.seq (.kp [0, 2, 5, 7] (.seq (.kp [0, 2, 5, 7, 19] s_cache_Cache_Put_p0) (.cond (.t 19) (.seq (.region false [⟨some 8, .mv (.v (.int .i64 1)), none, false⟩]) .ret) .skip))) s_cache_Cache_Put_p11))
def s_cache_Cache_Put : SFn := ⟨4, [.t 8], s_cache_Cache_Put_p12⟩
def s_cache_New_p0 : SCode := (.region false [⟨some 4, .mv (.t 0), none, false⟩,
  ⟨some 5, .bin .lss (.t 4) (.v (.int .i64 1)), none, false⟩,
  ⟨some 6, .mv (.t 5), none, false⟩,
  ⟨some 7, .mv (.t 0), (some (6, false)), false⟩,
  ⟨some 8, .bin .gtr (.t 7) (.v (.int .i64 256)), (some (6, false)), false⟩,
  ⟨some 9, .pick (.t 6) (.v (.bool true)) (.t 8), none, false⟩])
def s_cache_New_p1 : SCode := (.region false [⟨some 10, .mv (.t 0), none, false⟩,
  ⟨some 11, .mkmap, none, false⟩,
  ⟨some 12, .build [(.int .i64 0), (.int .i64 0), .nilm, .nils] [(0, 1, (.t 10)), (2, 1, (.t 11))], none, false⟩,
  ⟨some 13, .box false 4 (.t 12), none, false⟩,
  ⟨some 2, .mv (.t 13), none, false⟩,
  ⟨some 3, .mv (.v (.int .i64 0)), none, false⟩])
def s_cache_New_p2 : SCode := (.seq (.kp [0] (.seq (.kp [0, 9] s_cache_New_p0) (.cond (.t 9) (.seq (.region false [⟨some 2, .mv (.v .nilp), none, false⟩,
  ⟨some 3, .mv (.v (.int .i64 1)), none, false⟩]) .ret) .skip))) (.seq (.kp [2, 3] s_cache_New_p1) .ret))
def s_cache_New : SFn := ⟨1, [.t 2, .t 3], (.seq (.region false [⟨some 2, .mv (.v .nilp), none, false⟩,
  ⟨some 3, .mv (.v (.int .i64 0)), none, false⟩]) s_cache_New_p2)⟩
def s_law16_awake_p0 : SCode := (.region false [⟨some 8, .call f_cache_New [(.v (.int .i64 2))], none, false⟩,
  ⟨some 7, .mv (.t 8), none, false⟩,
  ⟨some 9, .ext (.t 7) 0, none, false⟩,
  ⟨some 10, .ext (.t 7) 1, none, false⟩,
  ⟨some 1, .mv (.t 9), none, false⟩,
  ⟨some 2, .mv (.t 10), none, false⟩])
def s_law16_awake_p1 : SCode := (.seq (.region false [⟨some 11, .mv (.t 2), none, false⟩,
  ⟨some 12, .bin .neq (.t 11) (.v (.int .i64 0)), none, false⟩]) (.cond (.t 12) (.seq (.region false [⟨some 0, .mv (.v (.bool false)), none, false⟩]) .ret) .skip))
def s_law16_awake_p2 : SCode := (.region false [⟨some 13, .mv (.t 1), none, false⟩,
  ⟨some 14, .build [(.int .i64 0), (.int .i64 0), (.int .i64 0), (.int .i64 0), (.int .i64 0), (.int .i64 0)] [], none, false⟩,
  ⟨some 15, .build [(.int .i64 0), (.int .i64 0)] [(0, 1, (.v (.int .i64 5)))], none, false⟩,
  ⟨some 16, .bslice [(.int .i64 0), (.int .i64 0)] 1 2 [(0, 2, (.t 15))], none, false⟩,
  ⟨some 17, .build [(.int .i64 0), .nils] [(0, 1, (.v (.int .i64 1))), (1, 1, (.t 16))], none, false⟩,
  ⟨some 18, .call f_cache_Cache_Put [(.t 13), (.t 14), (.v (.int .i64 3)), (.t 17)], none, false⟩])
def s_law16_awake_p3 : SCode := (.region false [⟨some 20, .mv (.t 1), none, false⟩,
  ⟨some 21, .build [(.int .i64 0), (.int .i64 0), (.int .i64 0), (.int .i64 0), (.int .i64 0), (.int .i64 0)] [], none, false⟩,
  ⟨some 22, .call f_cache_Cache_Get [(.t 20), (.t 21), (.v (.int .i64 3))], none, false⟩,
  ⟨some 19, .mv (.t 22), none, false⟩,
  ⟨some 23, .ext (.t 19) 0, none, false⟩,
  ⟨some 24, .ext (.t 19) 1, none, false⟩,
  ⟨some 3, .alloc true [(.int .i64 0), .nils], none, false⟩,
  ⟨none, .store 2 [] (.t 3) (.t 23), none, false⟩,
  ⟨some 4, .mv (.t 24), none, false⟩])
def s_law16_awake_p4 : SCode := (.region false [⟨some 26, .mv (.t 1), none, false⟩,
  ⟨some 27, .build [(.int .i64 0), (.int .i64 0), (.int .i64 0), (.int .i64 0), (.int .i64 0), (.int .i64 0)] [], none, false⟩,
  ⟨some 28, .call f_cache_Cache_Get [(.t 26), (.t 27), (.v (.int .i64 2))], none, false⟩,
  ⟨some 25, .mv (.t 28), none, false⟩,
  ⟨some 29, .ext (.t 25) 0, none, false⟩,
  ⟨some 30, .ext (.t 25) 1, none, false⟩,
  ⟨some 5, .alloc true [(.int .i64 0), .nils], none, false⟩,
  ⟨none, .store 2 [] (.t 5) (.t 29), none, false⟩,
  ⟨some 6, .mv (.t 30), none, false⟩])
def s_law16_awake_p5 : SCode := (.region false [⟨some 31, .mv (.t 4), none, false⟩,
  ⟨some 32, .mv (.t 31), none, false⟩,
  ⟨some 33, .mv (.t 6), (some (32, true)), false⟩,
  ⟨some 34, .un .not (.t 33), (some (32, true)), false⟩,
  ⟨some 35, .pick (.t 32) (.t 34) (.v (.bool false)), none, false⟩,
  ⟨some 36, .mv (.t 35), none, false⟩,
  ⟨some 37, .faddr 1 (.t 3), (some (36, true)), false⟩,
  ⟨some 38, .load none (.t 37), (some (36, true)), false⟩,
  ⟨some 39, .len (.t 38), (some (36, true)), false⟩,
  ⟨some 40, .bin .eql (.t 39) (.v (.int .i64 1)), (some (36, true)), false⟩,
  ⟨some 41, .pick (.t 36) (.t 40) (.v (.bool false)), none, false⟩,
  ⟨some 42, .mv (.t 41), none, false⟩,
  ⟨some 43, .faddr 1 (.t 3), (some (42, true)), false⟩,
  ⟨some 44, .load none (.t 43), (some (42, true)), false⟩,
  ⟨some 45, .iaddr 2 (.t 44) (.v (.int .i64 0)), (some (42, true)), false⟩,
  ⟨some 46, .faddr 0 (.t 45), (some (42, true)), false⟩,
  ⟨some 47, .load none (.t 46), (some (42, true)), false⟩,
  ⟨some 48, .bin .eql (.t 47) (.v (.int .i64 5)), (some (42, true)), false⟩,
  ⟨some 49, .pick (.t 42) (.t 48) (.v (.bool false)), none, false⟩,
  ⟨some 0, .mv (.t 49), none, false⟩])
def s_law16_awake_p6 : SCode := (.seq (.region false [⟨some 0, .mv (.v (.bool false)), none, false⟩]) (.seq (.kp [1, 2] s_law16_awake_p0) (.seq (.kp [1] s_law16_awake_p1) (.seq (.kp [1] s_law16_awake_p2) (.seq (.kp [1, 3, 4] s_law16_awake_p3) (.seq (.kp [3, 4, 6] s_law16_awake_p4) (.seq (.kp [0] s_law16_awake_p5) .ret)))))))
def s_law16_awake : SFn := ⟨0, [.t 0], s_law16_awake_p6⟩
def s_ref10_Cells_p0 : SCode := (.region false [⟨some 6, .mv (.t 0), none, false⟩,
  ⟨some 7, .len (.t 6), none, false⟩,
  ⟨some 8, .mv (.t 1), none, false⟩,
  ⟨some 9, .len (.t 8), none, false⟩,
  ⟨some 10, .bin .neq (.t 7) (.t 9), none, false⟩])
def s_ref10_Cells_p1 : SCode := (.region false [⟨some 11, .mv (.t 5), none, false⟩,
  ⟨some 12, .mv (.t 0), none, false⟩,
  ⟨some 13, .len (.t 12), none, false⟩,
  ⟨some 14, .bin .lss (.t 11) (.t 13), none, false⟩])
def s_ref10_Cells_p2 : SCode := (.region true [⟨some 17, .mv (.t 0), none, true⟩,
  ⟨some 18, .mv (.t 5), none, true⟩,
  ⟨some 19, .iaddr 2 (.t 17) (.t 18), none, true⟩,
  ⟨some 20, .load (some 2) (.t 19), none, true⟩,
  ⟨some 21, .mv (.t 1), none, true⟩,
  ⟨some 22, .mv (.t 5), none, true⟩,
  ⟨some 23, .iaddr 2 (.t 21) (.t 22), none, true⟩,
  ⟨some 24, .load (some 2) (.t 23), none, true⟩,
  ⟨some 25, .eq true true [.int, .int] (.t 20) (.t 24), none, false⟩])
def s_ref10_Cells_p3 : SCode := (.seq (.kp [0, 1, 5] (.block 1 (.seq (.kp [0, 1, 5, 25] s_ref10_Cells_p2) (.cond (.t 25) (.seq (.region false [⟨some 4, .mv (.v (.bool false)), none, false⟩]) .ret) .skip)))) (.region false [⟨some 15, .mv (.t 5), none, false⟩,
  ⟨some 16, .bin .add (.t 15) (.v (.int .i64 1)), none, false⟩,
  ⟨some 5, .mv (.t 16), none, false⟩]))
def s_ref10_Cells_p4 : SCode := (.seq (.kp [0, 1, 5] (.seq s_ref10_Cells_p1 (.cond (.t 14) .skip (.exit 0)))) s_ref10_Cells_p3)
def s_ref10_Cells_p5 : SCode := (.seq (.kp [] (.seq (.kp [0, 1, 5] (.region false [⟨some 5, .mv (.v (.int .i64 0)), none, false⟩])) (.block 0 (.loop (some [0, 1, 5]) s_ref10_Cells_p4)))) (.seq (.region false [⟨some 4, .mv (.v (.bool true)), none, false⟩]) .ret))
def s_ref10_Cells_p6 : SCode := (.seq (.region false [⟨some 4, .mv (.v (.bool false)), none, false⟩]) (.seq (.kp [0, 1] (.seq (.kp [0, 1, 10] s_ref10_Cells_p0) (.cond (.t 10) (.seq (.region false [⟨some 4, .mv (.v (.bool false)), none, false⟩]) .ret) .skip))) s_ref10_Cells_p5))
def s_ref10_Cells : SFn := ⟨2, [.t 4], s_ref10_Cells_p6⟩
def s_ref10_Same_p0 : SCode := (.region false [⟨some 5, .faddr 0 (.t 2), none, false⟩,
  ⟨some 6, .load none (.t 5), none, false⟩,
  ⟨some 7, .faddr 0 (.t 3), none, false⟩,
  ⟨some 8, .load none (.t 7), none, false⟩,
  ⟨some 9, .bin .eql (.t 6) (.t 8), none, false⟩,
  ⟨some 10, .mv (.t 9), none, false⟩,
  ⟨some 11, .faddr 1 (.t 2), (some (10, true)), false⟩,
  ⟨some 12, .load none (.t 11), (some (10, true)), false⟩,
  ⟨some 13, .faddr 1 (.t 3), (some (10, true)), false⟩,
  ⟨some 14, .load none (.t 13), (some (10, true)), false⟩,
  ⟨some 15, .call f_ref10_Cells [(.t 12), (.t 14)], (some (10, true)), false⟩,
  ⟨some 16, .pick (.t 10) (.t 15) (.v (.bool false)), none, false⟩,
  ⟨some 4, .mv (.t 16), none, false⟩])
def s_ref10_Same_p1 : SCode := (.seq (.region false [⟨some 2, .box true 2 (.t 0), none, false⟩,
  ⟨some 3, .box true 2 (.t 1), none, false⟩,
  ⟨some 4, .mv (.v (.bool false)), none, false⟩]) (.seq (.kp [4] s_ref10_Same_p0) .ret))
def s_ref10_Same : SFn := ⟨2, [.t 4], s_ref10_Same_p1⟩
def s_ref16_place_p0 : SCode := (.region false [⟨some 6, .mv (.t 5), none, false⟩,
  ⟨some 7, .mv (.t 0), none, false⟩,
  ⟨some 8, .nilck (.t 7), none, false⟩,
  ⟨some 9, .faddr 2 (.t 8), none, false⟩,
  ⟨some 10, .load none (.t 9), none, false⟩,
  ⟨some 11, .len (.t 10), none, false⟩,
  ⟨some 12, .bin .lss (.t 6) (.t 11), none, false⟩])
def s_ref16_place_p1 : SCode := (.region true [⟨some 15, .mv (.t 0), none, true⟩,
  ⟨some 16, .nilck (.t 15), none, true⟩,
  ⟨some 17, .faddr 2 (.t 16), none, true⟩,
  ⟨some 18, .load none (.t 17), none, true⟩,
  ⟨some 19, .mv (.t 5), none, true⟩,
  ⟨some 20, .iaddr 6 (.t 18) (.t 19), none, true⟩,
  ⟨some 21, .load (some 6) (.t 20), none, true⟩,
  ⟨some 22, .load (some 6) (.t 3), none, true⟩,
  ⟨some 23, .eq false true [.int, .int, .int, .int, .int, .int] (.t 21) (.t 22), none, false⟩])
def s_ref16_place_p2 : SCode := (.kp [0, 3, 5] (.block 1 (.seq (.kp [0, 3, 5, 23] s_ref16_place_p1) (.cond (.t 23) (.seq (.region false [⟨some 24, .mv (.t 5), none, false⟩,
  ⟨some 4, .mv (.t 24), none, false⟩]) .ret) .skip))))
def s_ref16_place_p3 : SCode := (.seq (.kp [0, 3, 5] (.seq (.kp [0, 3, 5, 12] s_ref16_place_p0) (.cond (.t 12) .skip (.exit 0)))) (.seq s_ref16_place_p2 (.region false [⟨some 13, .mv (.t 5), none, false⟩,
  ⟨some 14, .bin .add (.t 13) (.v (.int .i64 1)), none, false⟩,
  ⟨some 5, .mv (.t 14), none, false⟩])))
def s_ref16_place_p4 : SCode := (.seq (.kp [] (.seq (.kp [0, 3, 5] (.region false [⟨some 5, .mv (.v (.int .i64 0)), none, false⟩])) (.block 0 (.loop (some [0, 3, 5]) s_ref16_place_p3)))) (.seq (.region false [⟨some 4, .mv (.v (.int .i64 (-1))), none, false⟩]) .ret))
def s_ref16_place : SFn := ⟨2, [.t 4], (.seq (.region false [⟨some 3, .box true 6 (.t 1), none, false⟩,
  ⟨some 4, .mv (.v (.int .i64 0)), none, false⟩]) s_ref16_place_p4)⟩
def s_ref16_Get_p0 : SCode := (.region false [⟨some 9, .mv (.t 0), none, false⟩,
  ⟨some 10, .load (some 6) (.t 4), none, false⟩,
  ⟨some 11, .call f_ref16_place [(.t 9), (.t 10)], none, false⟩,
  ⟨some 8, .mv (.t 11), none, false⟩])
def s_ref16_Get_p1 : SCode := (.region false [⟨some 12, .mv (.t 8), none, false⟩,
  ⟨some 13, .bin .lss (.t 12) (.v (.int .i64 0)), none, false⟩,
  ⟨some 14, .mv (.t 13), none, false⟩,
  ⟨some 15, .mv (.t 2), (some (14, false)), false⟩,
  ⟨some 16, .mv (.t 0), (some (14, false)), false⟩,
  ⟨some 17, .nilck (.t 16), (some (14, false)), false⟩,
  ⟨some 18, .faddr 1 (.t 17), (some (14, false)), false⟩,
  ⟨some 19, .load none (.t 18), (some (14, false)), false⟩,
  ⟨some 20, .bin .neq (.t 15) (.t 19), (some (14, false)), false⟩,
  ⟨some 21, .pick (.t 14) (.v (.bool true)) (.t 20), none, false⟩])
def s_ref16_Get_p2 : SCode := (.seq (.region false [⟨some 22, .build [(.int .i64 0), .nils] [], none, false⟩,
  ⟨none, .store 2 [] (.t 6) (.t 22), none, false⟩,
  ⟨some 7, .mv (.v (.bool false)), none, false⟩]) .ret)
def s_ref16_Get_p3 : SCode := (.region false [⟨some 23, .mv (.t 0), none, false⟩,
  ⟨some 24, .nilck (.t 23), none, false⟩,
  ⟨some 25, .faddr 3 (.t 24), none, false⟩,
  ⟨some 26, .load none (.t 25), none, false⟩,
  ⟨some 27, .mv (.t 8), none, false⟩,
  ⟨some 28, .iaddr 2 (.t 26) (.t 27), none, false⟩,
  ⟨some 29, .load (some 2) (.t 28), none, false⟩,
  ⟨none, .store 2 [] (.t 6) (.t 29), none, false⟩,
  ⟨some 7, .mv (.v (.bool true)), none, false⟩])
def s_ref16_Get_p4 : SCode := (.seq (.region false [⟨some 4, .box true 6 (.t 1), none, false⟩,
  ⟨some 6, .alloc true [(.int .i64 0), .nils], none, false⟩,
  ⟨some 7, .mv (.v (.bool false)), none, false⟩]) (.seq s_ref16_Get_p0 (.seq (.kp [0, 6, 8] (.seq (.kp [0, 6, 8, 21] s_ref16_Get_p1) (.cond (.t 21) s_ref16_Get_p2 .skip))) (.seq (.kp [6, 7] s_ref16_Get_p3) .ret))))
def s_ref16_Get : SFn := ⟨3, [.cell 6 (some 2), .t 7], s_ref16_Get_p4⟩
def s_ref16_New_p0 : SCode := (.region false [⟨some 4, .mv (.t 0), none, false⟩,
  ⟨some 5, .bin .lss (.t 4) (.v (.int .i64 1)), none, false⟩,
  ⟨some 6, .mv (.t 5), none, false⟩,
  ⟨some 7, .mv (.t 0), (some (6, false)), false⟩,
  ⟨some 8, .bin .gtr (.t 7) (.v (.int .i64 256)), (some (6, false)), false⟩,
  ⟨some 9, .pick (.t 6) (.v (.bool true)) (.t 8), none, false⟩])
def s_ref16_New_p1 : SCode := (.region false [⟨some 10, .mv (.t 0), none, false⟩,
  ⟨some 11, .build [(.int .i64 0), (.int .i64 0), .nils, .nils] [(0, 1, (.t 10))], none, false⟩,
  ⟨some 12, .box false 4 (.t 11), none, false⟩,
  ⟨some 2, .mv (.t 12), none, false⟩,
  ⟨some 3, .mv (.v (.int .i64 0)), none, false⟩])
def s_ref16_New_p2 : SCode := (.seq (.kp [0] (.seq (.kp [0, 9] s_ref16_New_p0) (.cond (.t 9) (.seq (.region false [⟨some 2, .mv (.v .nilp), none, false⟩,
  ⟨some 3, .mv (.v (.int .i64 1)), none, false⟩]) .ret) .skip))) (.seq (.kp [2, 3] s_ref16_New_p1) .ret))
def s_ref16_New : SFn := ⟨1, [.t 2, .t 3], (.seq (.region false [⟨some 2, .mv (.v .nilp), none, false⟩,
  ⟨some 3, .mv (.v (.int .i64 0)), none, false⟩]) s_ref16_New_p2)⟩
def s_ref16_Put_p0 : SCode := (.region false [⟨some 9, .mv (.t 2), none, false⟩,
  ⟨some 10, .mv (.t 0), none, false⟩,
  ⟨some 11, .nilck (.t 10), none, false⟩,
  ⟨some 12, .faddr 1 (.t 11), none, false⟩,
  ⟨some 13, .load none (.t 12), none, false⟩,
  ⟨some 14, .bin .neq (.t 9) (.t 13), none, false⟩])
def s_ref16_Put_p1 : SCode := (.region false [⟨some 15, .mv (.t 0), none, false⟩,
  ⟨some 16, .mv (.t 2), none, false⟩,
  ⟨some 17, .nilck (.t 15), none, false⟩,
  ⟨some 18, .faddr 1 (.t 17), none, false⟩,
  ⟨none, .store 1 [] (.t 18) (.t 16), none, false⟩])
def s_ref16_Put_p2 : SCode := (.region false [⟨some 19, .mv (.t 0), none, false⟩,
  ⟨some 20, .mv (.t 0), none, false⟩,
  ⟨some 21, .nilck (.t 19), none, false⟩,
  ⟨some 22, .faddr 2 (.t 21), none, false⟩,
  ⟨none, .store 1 [] (.t 22) (.v .nils), none, false⟩,
  ⟨some 23, .nilck (.t 20), none, false⟩,
  ⟨some 24, .faddr 3 (.t 23), none, false⟩,
  ⟨none, .store 1 [] (.t 24) (.v .nils), none, false⟩])
def s_ref16_Put_p3 : SCode := (.region false [⟨some 25, .bslice [] 0 2 [], none, false⟩,
  ⟨some 26, .faddr 1 (.t 7), none, false⟩,
  ⟨some 27, .load none (.t 26), none, false⟩,
  ⟨some 28, .append 2 16 [(.int .i64 0), (.int .i64 0)] [] (.t 25) (.t 27), none, false⟩,
  ⟨some 29, .faddr 1 (.t 7), none, false⟩,
  ⟨none, .store 1 [] (.t 29) (.t 28), none, false⟩])
def s_ref16_Put_p4 : SCode := (.region false [⟨some 30, .mv (.t 0), none, false⟩,
  ⟨some 31, .load (some 6) (.t 5), none, false⟩,
  ⟨some 32, .call f_ref16_place [(.t 30), (.t 31)], none, false⟩,
  ⟨some 8, .mv (.t 32), none, false⟩])
def s_ref16_Put_p5 : SCode := (.region false [⟨some 35, .mv (.t 0), none, false⟩,
  ⟨some 36, .bslice [] 0 2 [], none, false⟩,
  ⟨some 37, .mv (.t 0), none, false⟩,
  ⟨some 38, .nilck (.t 37), none, false⟩,
  ⟨some 39, .faddr 3 (.t 38), none, false⟩,
  ⟨some 40, .load none (.t 39), none, false⟩,
  ⟨some 41, .append 2 32 [(.int .i64 0), .nils] [] (.t 36) (.t 40), none, false⟩,
  ⟨some 42, .nilck (.t 35), none, false⟩,
  ⟨some 43, .faddr 3 (.t 42), none, false⟩,
  ⟨none, .store 1 [] (.t 43) (.t 41), none, false⟩])
def s_ref16_Put_p6 : SCode := (.region true [⟨some 44, .mv (.t 0), none, true⟩,
  ⟨some 45, .nilck (.t 44), none, true⟩,
  ⟨some 46, .faddr 3 (.t 45), none, true⟩,
  ⟨some 47, .load none (.t 46), none, true⟩,
  ⟨some 48, .mv (.t 8), none, true⟩,
  ⟨some 49, .load (some 2) (.t 7), none, true⟩,
  ⟨some 50, .iaddr 2 (.t 47) (.t 48), none, false⟩,
  ⟨none, .store 2 [] (.t 50) (.t 49), none, false⟩])
def s_ref16_Put_p7 : SCode := (.seq (.region false [⟨some 33, .mv (.t 8), none, false⟩,
  ⟨some 34, .bin .geq (.t 33) (.v (.int .i64 0)), none, false⟩]) (.cond (.t 34) (.seq (.kp [0, 7, 8] s_ref16_Put_p5) (.seq (.kp [] s_ref16_Put_p6) .ret)) .skip))
def s_ref16_Put_p8 : SCode := (.region true [⟨some 51, .mv (.t 0), none, true⟩,
  ⟨some 52, .nilck (.t 51), none, true⟩,
  ⟨some 53, .faddr 2 (.t 52), none, true⟩,
  ⟨some 54, .load none (.t 53), none, true⟩,
  ⟨some 55, .len (.t 54), none, true⟩,
  ⟨some 56, .mv (.t 0), none, true⟩,
  ⟨some 57, .nilck (.t 56), none, true⟩,
  ⟨some 58, .faddr 0 (.t 57), none, true⟩,
  ⟨some 59, .load none (.t 58), none, true⟩,
  ⟨some 60, .bin .eql (.t 55) (.t 59), none, false⟩])
def s_ref16_Put_p9 : SCode := (.region true [⟨some 61, .mv (.t 0), none, true⟩,
  ⟨some 62, .mv (.t 0), none, true⟩,
  ⟨some 63, .mv (.t 0), none, true⟩,
  ⟨some 64, .nilck (.t 63), none, true⟩,
  ⟨some 65, .faddr 2 (.t 64), none, true⟩,
  ⟨some 66, .load none (.t 65), none, true⟩,
  ⟨some 67, .slice 6 (.t 66) (some (.v (.int .i64 1))) none none, none, true⟩,
  ⟨some 68, .mv (.t 0), none, true⟩,
  ⟨some 69, .nilck (.t 68), none, true⟩,
  ⟨some 70, .faddr 3 (.t 69), none, true⟩,
  ⟨some 71, .load none (.t 70), none, true⟩,
  ⟨some 72, .slice 2 (.t 71) (some (.v (.int .i64 1))) none none, none, true⟩,
  ⟨some 73, .nilck (.t 61), none, false⟩,
  ⟨some 74, .faddr 2 (.t 73), none, false⟩,
  ⟨none, .store 1 [] (.t 74) (.t 67), none, false⟩,
  ⟨some 75, .nilck (.t 62), none, false⟩,
  ⟨some 76, .faddr 3 (.t 75), none, false⟩,
  ⟨none, .store 1 [] (.t 76) (.t 72), none, false⟩])
def s_ref16_Put_p10 : SCode := (.region true [⟨some 77, .mv (.t 0), none, true⟩,
  ⟨some 79, .mv (.t 0), none, true⟩,
  ⟨some 80, .nilck (.t 79), none, true⟩,
  ⟨some 81, .faddr 2 (.t 80), none, true⟩,
  ⟨some 82, .load none (.t 81), none, true⟩,
  ⟨some 84, .load (some 6) (.t 5), none, true⟩,
  ⟨some 78, .bslice [] 0 6 [], none, true⟩,
  ⟨some 83, .append 6 48 [(.int .i64 0), (.int .i64 0), (.int .i64 0), (.int .i64 0), (.int .i64 0), (.int .i64 0)] [(.t 5)] (.t 78) (.t 82), none, false⟩,
  ⟨some 85, .bslice [(.int .i64 0), (.int .i64 0), (.int .i64 0), (.int .i64 0), (.int .i64 0), (.int .i64 0)] 1 6 [(0, 6, (.t 84))], none, true⟩,
  ⟨some 86, .append 6 48 [(.int .i64 0), (.int .i64 0), (.int .i64 0), (.int .i64 0), (.int .i64 0), (.int .i64 0)] [] (.t 83) (.t 85), none, false⟩,
  ⟨some 87, .nilck (.t 77), none, false⟩,
  ⟨some 88, .faddr 2 (.t 87), none, false⟩,
  ⟨none, .store 1 [] (.t 88) (.t 86), none, false⟩])
def s_ref16_Put_p11 : SCode := (.region true [⟨some 89, .mv (.t 0), none, true⟩,
  ⟨some 91, .mv (.t 0), none, true⟩,
  ⟨some 92, .nilck (.t 91), none, true⟩,
  ⟨some 93, .faddr 3 (.t 92), none, true⟩,
  ⟨some 94, .load none (.t 93), none, true⟩,
  ⟨some 96, .load (some 2) (.t 7), none, true⟩,
  ⟨some 90, .bslice [] 0 2 [], none, true⟩,
  ⟨some 95, .append 2 32 [(.int .i64 0), .nils] [(.t 7)] (.t 90) (.t 94), none, false⟩,
  ⟨some 97, .bslice [(.int .i64 0), .nils] 1 2 [(0, 2, (.t 96))], none, true⟩,
  ⟨some 98, .append 2 32 [(.int .i64 0), .nils] [] (.t 95) (.t 97), none, false⟩,
  ⟨some 99, .nilck (.t 89), none, false⟩,
  ⟨some 100, .faddr 3 (.t 99), none, false⟩,
  ⟨none, .store 1 [] (.t 100) (.t 98), none, false⟩])
def s_ref16_Put_p12 : SCode := (.seq (.kp [0, 5, 7] s_ref16_Put_p3) (.seq (.kp [0, 5, 7] (.seq s_ref16_Put_p4 s_ref16_Put_p7)) (.seq (.kp [0, 5, 7] (.seq (.kp [0, 5, 7, 60] s_ref16_Put_p8) (.cond (.t 60) s_ref16_Put_p9 .skip))) (.seq (.kp [0, 7] s_ref16_Put_p10) s_ref16_Put_p11))))
def s_ref16_Put_p13 : SCode := (.seq (.region false [⟨some 5, .box true 6 (.t 1), none, false⟩,
  ⟨some 7, .box true 2 (.t 3), none, false⟩]) (.seq (.kp [0, 5, 7] (.seq (.kp [0, 2, 5, 7, 14] s_ref16_Put_p0) (.cond (.t 14) (.seq (.kp [0, 5, 7] s_ref16_Put_p1) s_ref16_Put_p2) .skip))) s_ref16_Put_p12))
def s_ref16_Put : SFn := ⟨4, [], s_ref16_Put_p13⟩
def s_law16_CacheActs_p0 : SCode := (.seq (.region false [⟨some 17, .call f_law16_awake [], none, false⟩,
  ⟨some 18, .un .not (.t 17), none, false⟩]) (.cond (.t 18) (.seq (.region false [⟨none, .store 1 [] (.t 4) (.v (.bool false)), none, false⟩]) .ret) .skip))
def s_law16_CacheActs_p1 : SCode := (.region false [⟨some 20, .mv (.t 0), none, false⟩,
  ⟨some 21, .call f_cache_New [(.t 20)], none, false⟩,
  ⟨some 19, .mv (.t 21), none, false⟩,
  ⟨some 22, .ext (.t 19) 0, none, false⟩,
  ⟨some 23, .ext (.t 19) 1, none, false⟩,
  ⟨some 5, .mv (.t 22), none, false⟩,
  ⟨some 6, .mv (.t 23), none, false⟩])
def s_law16_CacheActs_p2 : SCode := (.region false [⟨some 25, .mv (.t 0), none, false⟩,
  ⟨some 26, .call f_ref16_New [(.t 25)], none, false⟩,
  ⟨some 24, .mv (.t 26), none, false⟩,
  ⟨some 27, .ext (.t 24) 0, none, false⟩,
  ⟨some 28, .ext (.t 24) 1, none, false⟩,
  ⟨some 7, .alloc true [.nilp], none, false⟩,
  ⟨none, .store 1 [] (.t 7) (.t 27), none, false⟩,
  ⟨some 8, .mv (.t 28), none, false⟩])
def s_law16_CacheActs_p3 : SCode := (.region false [⟨some 29, .mv (.t 6), none, false⟩,
  ⟨some 30, .mv (.t 8), none, false⟩,
  ⟨some 31, .bin .neq (.t 29) (.t 30), none, false⟩,
  ⟨some 32, .mv (.t 31), none, false⟩,
  ⟨some 33, .mv (.t 5), (some (32, false)), false⟩,
  ⟨some 34, .eq true false [.ptr] (.t 33) (.v .nilp), (some (32, false)), false⟩,
  ⟨some 35, .mv (.t 6), (some (32, false)), false⟩,
  ⟨some 36, .bin .eql (.t 35) (.v (.int .i64 0)), (some (32, false)), false⟩,
  ⟨some 37, .eq true false [.bool] (.t 34) (.t 36), (some (32, false)), false⟩,
  ⟨some 38, .pick (.t 32) (.v (.bool true)) (.t 37), none, false⟩])
def s_law16_CacheActs_p4 : SCode := (.seq (.region false [⟨some 39, .mv (.t 6), none, false⟩,
  ⟨some 40, .bin .neq (.t 39) (.v (.int .i64 0)), none, false⟩]) (.cond (.t 40) (.seq (.region false [⟨some 41, .call f_law16_awake [], none, false⟩,
  ⟨none, .store 1 [] (.t 4) (.t 41), none, false⟩]) .ret) .skip))
def s_law16_CacheActs_p5 : SCode := (.region false [⟨some 42, .mv (.t 9), none, false⟩,
  ⟨some 43, .mv (.t 1), none, false⟩,
  ⟨some 44, .len (.t 43), none, false⟩,
  ⟨some 45, .bin .lss (.t 42) (.t 44), none, false⟩])
def s_law16_CacheActs_p6 : SCode := (.region false [⟨some 48, .mv (.t 1), none, false⟩,
  ⟨some 49, .mv (.t 9), none, false⟩,
  ⟨some 50, .iaddr 10 (.t 48) (.t 49), none, false⟩,
  ⟨some 51, .faddr 0 (.t 50), none, false⟩,
  ⟨some 52, .load none (.t 51), none, false⟩])
def s_law16_CacheActs_p7 : SCode := (.region true [⟨some 54, .mv (.t 5), none, true⟩,
  ⟨some 55, .mv (.t 1), none, true⟩,
  ⟨some 56, .mv (.t 9), none, true⟩,
  ⟨some 57, .iaddr 10 (.t 55) (.t 56), none, true⟩,
  ⟨some 58, .faddr 1 (.t 57), none, true⟩,
  ⟨some 59, .load (some 6) (.t 58), none, true⟩,
  ⟨some 60, .mv (.t 1), none, true⟩,
  ⟨some 61, .mv (.t 9), none, true⟩,
  ⟨some 62, .iaddr 10 (.t 60) (.t 61), none, true⟩,
  ⟨some 63, .faddr 7 (.t 62), none, true⟩,
  ⟨some 64, .load none (.t 63), none, true⟩,
  ⟨some 65, .call f_cache_Cache_Get [(.t 54), (.t 59), (.t 64)], none, false⟩,
  ⟨some 53, .mv (.t 65), none, false⟩,
  ⟨some 66, .ext (.t 53) 0, none, false⟩,
  ⟨some 67, .ext (.t 53) 1, none, true⟩,
  ⟨some 10, .alloc true [(.int .i64 0), .nils], none, true⟩,
  ⟨none, .store 2 [] (.t 10) (.t 66), none, false⟩,
  ⟨some 11, .mv (.t 67), none, false⟩])
def s_law16_CacheActs_p8 : SCode := (.region true [⟨some 69, .load none (.t 7), none, true⟩,
  ⟨some 70, .mv (.t 1), none, true⟩,
  ⟨some 71, .mv (.t 9), none, true⟩,
  ⟨some 72, .iaddr 10 (.t 70) (.t 71), none, true⟩,
  ⟨some 73, .faddr 1 (.t 72), none, true⟩,
  ⟨some 74, .load (some 6) (.t 73), none, true⟩,
  ⟨some 75, .mv (.t 1), none, true⟩,
  ⟨some 76, .mv (.t 9), none, true⟩,
  ⟨some 77, .iaddr 10 (.t 75) (.t 76), none, true⟩,
  ⟨some 78, .faddr 7 (.t 77), none, true⟩,
  ⟨some 79, .load none (.t 78), none, true⟩,
  ⟨some 80, .call f_ref16_Get [(.t 69), (.t 74), (.t 79)], none, false⟩,
  ⟨some 68, .mv (.t 80), none, false⟩,
  ⟨some 81, .ext (.t 68) 0, none, false⟩,
  ⟨some 82, .ext (.t 68) 1, none, true⟩,
  ⟨some 12, .alloc true [(.int .i64 0), .nils], none, true⟩,
  ⟨none, .store 2 [] (.t 12) (.t 81), none, false⟩,
  ⟨some 13, .mv (.t 82), none, false⟩])
def s_law16_CacheActs_p9 : SCode := (.region false [⟨some 83, .mv (.t 11), none, false⟩,
  ⟨some 84, .mv (.t 13), none, false⟩,
  ⟨some 85, .eq true false [.bool] (.t 83) (.t 84), none, false⟩,
  ⟨some 86, .mv (.t 85), none, false⟩,
  ⟨some 87, .load (some 2) (.t 10), (some (86, false)), false⟩,
  ⟨some 88, .load (some 2) (.t 12), (some (86, false)), false⟩,
  ⟨some 89, .call f_ref10_Same [(.t 87), (.t 88)], (some (86, false)), false⟩,
  ⟨some 90, .un .not (.t 89), (some (86, false)), false⟩,
  ⟨some 91, .pick (.t 86) (.v (.bool true)) (.t 90), none, false⟩])
def s_law16_CacheActs_p10 : SCode := (.seq (.kp [1, 4, 5, 7, 9] (.seq (.kp [1, 4, 5, 7, 9, 91] s_law16_CacheActs_p9) (.cond (.t 91) (.seq (.region false [⟨none, .store 1 [] (.t 4) (.v (.bool false)), none, false⟩]) .ret) .skip))) (.exit 1))
def s_law16_CacheActs_p11 : SCode := (.kp [1, 4, 5, 7, 9] (.seq (.kp [1, 4, 5, 7, 9, 52] s_law16_CacheActs_p6) (.cond (.t 52) (.seq (.kp [1, 4, 5, 7, 9, 10, 11] s_law16_CacheActs_p7) (.seq (.kp [1, 4, 5, 7, 9, 10, 11, 12, 13] s_law16_CacheActs_p8) s_law16_CacheActs_p10)) .skip)))
def s_law16_CacheActs_p12 : SCode := (.region true [⟨some 92, .mv (.t 5), none, true⟩,
  ⟨some 93, .mv (.t 1), none, true⟩,
  ⟨some 94, .mv (.t 9), none, true⟩,
  ⟨some 95, .iaddr 10 (.t 93) (.t 94), none, true⟩,
  ⟨some 96, .faddr 1 (.t 95), none, true⟩,
  ⟨some 97, .load (some 6) (.t 96), none, true⟩,
  ⟨some 98, .mv (.t 1), none, true⟩,
  ⟨some 99, .mv (.t 9), none, true⟩,
  ⟨some 100, .iaddr 10 (.t 98) (.t 99), none, true⟩,
  ⟨some 101, .faddr 7 (.t 100), none, true⟩,
  ⟨some 102, .load none (.t 101), none, true⟩,
  ⟨some 103, .mv (.t 1), none, true⟩,
  ⟨some 104, .mv (.t 9), none, true⟩,
  ⟨some 105, .iaddr 10 (.t 103) (.t 104), none, true⟩,
  ⟨some 106, .faddr 8 (.t 105), none, true⟩,
  ⟨some 107, .load (some 2) (.t 106), none, true⟩,
  ⟨some 108, .call f_cache_Cache_Put [(.t 92), (.t 97), (.t 102), (.t 107)], none, false⟩,
  ⟨some 109, .bin .neq (.t 108) (.v (.int .i64 0)), none, false⟩])
def s_law16_CacheActs_p13 : SCode := (.region true [⟨some 110, .load none (.t 7), none, true⟩,
  ⟨some 111, .mv (.t 1), none, true⟩,
  ⟨some 112, .mv (.t 9), none, true⟩,
  ⟨some 113, .iaddr 10 (.t 111) (.t 112), none, true⟩,
  ⟨some 114, .faddr 1 (.t 113), none, true⟩,
  ⟨some 115, .load (some 6) (.t 114), none, true⟩,
  ⟨some 116, .mv (.t 1), none, true⟩,
  ⟨some 117, .mv (.t 9), none, true⟩,
  ⟨some 118, .iaddr 10 (.t 116) (.t 117), none, true⟩,
  ⟨some 119, .faddr 7 (.t 118), none, true⟩,
  ⟨some 120, .load none (.t 119), none, true⟩,
  ⟨some 121, .mv (.t 1), none, true⟩,
  ⟨some 122, .mv (.t 9), none, true⟩,
  ⟨some 123, .iaddr 10 (.t 121) (.t 122), none, true⟩,
  ⟨some 124, .faddr 8 (.t 123), none, true⟩,
  ⟨some 125, .load (some 2) (.t 124), none, true⟩,
  ⟨some 126, .call f_ref16_Put [(.t 110), (.t 115), (.t 120), (.t 125)], none, false⟩])
def s_law16_CacheActs_p14 : SCode := (.seq (.kp [1, 4, 5, 7, 9] (.seq (.kp [1, 4, 5, 7, 9, 109] s_law16_CacheActs_p12) (.cond (.t 109) (.seq (.region false [⟨none, .store 1 [] (.t 4) (.v (.bool false)), none, false⟩]) .ret) .skip))) s_law16_CacheActs_p13)
def s_law16_CacheActs_p15 : SCode := (.seq (.kp [1, 4, 5, 7, 9] (.block 1 (.seq s_law16_CacheActs_p11 s_law16_CacheActs_p14))) (.region false [⟨some 46, .mv (.t 9), none, false⟩,
  ⟨some 47, .bin .add (.t 46) (.v (.int .i64 1)), none, false⟩,
  ⟨some 9, .mv (.t 47), none, false⟩]))
def s_law16_CacheActs_p16 : SCode := (.seq (.kp [1, 4, 5, 7, 9] (.seq s_law16_CacheActs_p5 (.cond (.t 45) .skip (.exit 0)))) s_law16_CacheActs_p15)
def s_law16_CacheActs_p17 : SCode := (.region false [⟨some 15, .alloc true [(.int .i64 0), (.int .i64 0), (.int .i64 0), (.int .i64 0), (.int .i64 0), (.int .i64 0)], none, false⟩,
  ⟨none, .store 6 [] (.t 15) (.t 129), none, false⟩])
def s_law16_CacheActs_p18 : SCode := (.seq s_law16_CacheActs_p17 (.region false [⟨some 16, .alloc true [(.int .i64 0), .nils], none, false⟩,
  ⟨none, .store 2 [] (.t 16) (.t 130), none, false⟩]))
def s_law16_CacheActs_p19 : SCode := (.region true [⟨some 131, .load none (.t 14), none, true⟩,
  ⟨some 132, .load none (.t 7), none, true⟩,
  ⟨some 133, .nilck (.t 132), none, true⟩,
  ⟨some 134, .faddr 2 (.t 133), none, true⟩,
  ⟨some 135, .load none (.t 134), none, true⟩,
  ⟨some 136, .len (.t 135), none, true⟩,
  ⟨some 137, .bin .geq (.t 131) (.t 136), none, false⟩,
  ⟨some 138, .mv (.t 137), none, false⟩,
  ⟨some 139, .load none (.t 7), (some (138, false)), true⟩,
  ⟨some 140, .nilck (.t 139), (some (138, false)), true⟩,
  ⟨some 141, .faddr 2 (.t 140), (some (138, false)), true⟩,
  ⟨some 142, .load none (.t 141), (some (138, false)), true⟩,
  ⟨some 143, .load none (.t 14), (some (138, false)), true⟩,
  ⟨some 144, .iaddr 6 (.t 142) (.t 143), (some (138, false)), true⟩,
  ⟨some 145, .load (some 6) (.t 144), (some (138, false)), true⟩,
  ⟨some 146, .load (some 6) (.t 15), (some (138, false)), true⟩,
  ⟨some 147, .eq true true [.int, .int, .int, .int, .int, .int] (.t 145) (.t 146), (some (138, false)), false⟩,
  ⟨some 148, .pick (.t 138) (.v (.bool true)) (.t 147), none, false⟩,
  ⟨some 149, .mv (.t 148), none, false⟩,
  ⟨some 150, .load none (.t 7), (some (149, false)), true⟩,
  ⟨some 151, .nilck (.t 150), (some (149, false)), true⟩,
  ⟨some 152, .faddr 3 (.t 151), (some (149, false)), true⟩,
  ⟨some 153, .load none (.t 152), (some (149, false)), true⟩,
  ⟨some 154, .load none (.t 14), (some (149, false)), true⟩,
  ⟨some 155, .iaddr 2 (.t 153) (.t 154), (some (149, false)), true⟩,
  ⟨some 156, .load (some 2) (.t 155), (some (149, false)), true⟩,
  ⟨some 157, .load (some 2) (.t 16), (some (149, false)), true⟩,
  ⟨some 158, .call f_ref10_Same [(.t 156), (.t 157)], (some (149, false)), false⟩,
  ⟨some 159, .un .not (.t 158), (some (149, false)), false⟩,
  ⟨some 160, .pick (.t 149) (.v (.bool true)) (.t 159), none, false⟩])
def s_law16_CacheActs_p20 : SCode := (.seq (.kp [4, 5, 7, 14] (.seq (.kp [4, 5, 7, 14, 160] s_law16_CacheActs_p19) (.cond (.t 160) (.seq (.region false [⟨none, .store 1 [] (.t 4) (.v (.bool false)), none, false⟩]) .ret) .skip))) (.region false [⟨some 161, .load none (.t 14), none, false⟩,
  ⟨some 162, .bin .add (.t 161) (.v (.int .i64 1)), none, false⟩,
  ⟨none, .store 1 [] (.t 14) (.t 162), none, false⟩]))
def s_law16_CacheActs_p21 : SCode := (.block 3 s_law16_CacheActs_p20)
def s_law16_CacheActs_p22 : SCode := (.seq (.kp [4, 5, 7, 14, 128] (.region false [⟨some 127, .mv (.t 5), none, false⟩,
  ⟨some 128, .call f_cache_Cache_All [(.t 127)], none, false⟩])) (.block 2 (.rangef (.t 128) [129, 130] s_law16_CacheActs_p18 s_law16_CacheActs_p21)))
def s_law16_CacheActs_p23 : SCode := (.region true [⟨some 163, .load none (.t 14), none, true⟩,
  ⟨some 164, .load none (.t 7), none, true⟩,
  ⟨some 165, .nilck (.t 164), none, true⟩,
  ⟨some 166, .faddr 2 (.t 165), none, true⟩,
  ⟨some 167, .load none (.t 166), none, true⟩,
  ⟨some 168, .len (.t 167), none, true⟩,
  ⟨some 169, .bin .eql (.t 163) (.t 168), none, false⟩,
  ⟨some 170, .mv (.t 169), none, false⟩,
  ⟨some 171, .mv (.t 5), (some (170, true)), true⟩,
  ⟨some 173, .load none (.t 14), (some (170, true)), true⟩,
  ⟨some 172, .call f_cache_Cache_Len [(.t 171)], (some (170, true)), true⟩,
  ⟨some 174, .bin .eql (.t 172) (.t 173), (some (170, true)), false⟩,
  ⟨some 175, .pick (.t 170) (.t 174) (.v (.bool false)), none, false⟩,
  ⟨some 176, .mv (.t 175), none, false⟩,
  ⟨some 177, .call f_law16_awake [], (some (176, true)), false⟩,
  ⟨some 178, .pick (.t 176) (.t 177) (.v (.bool false)), none, false⟩,
  ⟨none, .store 1 [] (.t 4) (.t 178), none, false⟩])
def s_law16_CacheActs_p24 : SCode := (.seq (.region false [⟨some 14, .alloc true [(.int .i64 0)], none, false⟩,
  ⟨none, .store 1 [] (.t 14) (.v (.int .i64 0)), none, false⟩]) (.seq (.kp [4, 5, 7, 14] s_law16_CacheActs_p22) (.seq (.kp [4] s_law16_CacheActs_p23) .ret)))
def s_law16_CacheActs_p25 : SCode := (.seq (.kp [1, 4, 5, 7] s_law16_CacheActs_p4) (.seq (.kp [4, 5, 7] (.seq (.kp [1, 4, 5, 7, 9] (.region false [⟨some 9, .mv (.v (.int .i64 0)), none, false⟩])) (.block 0 (.loop (some [1, 4, 5, 7, 9]) s_law16_CacheActs_p16)))) s_law16_CacheActs_p24))
def s_law16_CacheActs_p26 : SCode := (.seq (.kp [1, 4, 5, 6, 7] (.seq (.kp [1, 4, 5, 6, 7, 38] s_law16_CacheActs_p3) (.cond (.t 38) (.seq (.region false [⟨none, .store 1 [] (.t 4) (.v (.bool false)), none, false⟩]) .ret) .skip))) s_law16_CacheActs_p25)
def s_law16_CacheActs_p27 : SCode := (.seq (.region false [⟨some 4, .alloc true [(.bool false)], none, false⟩]) (.seq (.kp [0, 1, 4] s_law16_CacheActs_p0) (.seq (.kp [0, 1, 4, 5, 6] s_law16_CacheActs_p1) (.seq (.kp [1, 4, 5, 6, 7, 8] s_law16_CacheActs_p2) s_law16_CacheActs_p26))))
def s_law16_CacheActs : SFn := ⟨2, [.cell 4 none], s_law16_CacheActs_p27⟩
def tb : Tbl := fun f => match f with
  | 7 => some s_law16_CacheActs
  | 12 => some s_cache_New
  | 13 => some s_cache_Cache_Put
  | 14 => some s_cache_Cache_Get
  | 15 => some s_ref10_Cells
  | 16 => some s_law16_awake
  | 32 => some s_ref16_New
  | 33 => some s_ref16_Get
  | 34 => some s_ref10_Same
  | 35 => some s_ref16_Put
  | 36 => some s_cache_Cache_All
  | 37 => some s_cache_Cache_Len
  | 41 => some s_cache_own
  | 50 => some s_ref16_place
  | 51 => some s_cache_Cache_All_1
  | 56 => some s_slices_Clone_api_Cell_api_Cell
  | _ => none
@[go_sem] def u_slices_Clone_api_Cell_api_Cell_p0 {F K fr m} := @RK_unf F K fr m _ _ s_slices_Clone_api_Cell_api_Cell_p0.eq_1
@[go_sem] def u_slices_Clone_api_Cell_api_Cell_p1 {F K fr m} := @RK_unf F K fr m _ _ s_slices_Clone_api_Cell_api_Cell_p1.eq_1
theorem t_slices_Clone_api_Cell_api_Cell : tb f_slices_Clone_api_Cell_api_Cell = some s_slices_Clone_api_Cell_api_Cell := rfl
@[go_sem] def u_cache_own_p0 {F K fr m} := @RK_unf F K fr m _ _ s_cache_own_p0.eq_1
theorem t_cache_own : tb f_cache_own = some s_cache_own := rfl
@[go_sem] def u_cache_Cache_All_1_p0 {F K fr m} := @RK_unf F K fr m _ _ s_cache_Cache_All_1_p0.eq_1
@[go_sem] def u_cache_Cache_All_1_p1 {F K fr m} := @RK_unf F K fr m _ _ s_cache_Cache_All_1_p1.eq_1
@[go_sem] def u_cache_Cache_All_1_p2 {F K fr m} := @RK_unf F K fr m _ _ s_cache_Cache_All_1_p2.eq_1
@[go_sem] def u_cache_Cache_All_1_p3 {F K fr m} := @RK_unf F K fr m _ _ s_cache_Cache_All_1_p3.eq_1
@[go_sem] def u_cache_Cache_All_1_p4 {F K fr m} := @RK_unf F K fr m _ _ s_cache_Cache_All_1_p4.eq_1
@[go_sem] def u_cache_Cache_All_1_p5 {F K fr m} := @RK_unf F K fr m _ _ s_cache_Cache_All_1_p5.eq_1
theorem t_cache_Cache_All_1 : tb f_cache_Cache_All_1 = some s_cache_Cache_All_1 := rfl
@[go_sem] def u_cache_Cache_All_p0 {F K fr m} := @RK_unf F K fr m _ _ s_cache_Cache_All_p0.eq_1
theorem t_cache_Cache_All : tb f_cache_Cache_All = some s_cache_Cache_All := rfl
@[go_sem] def u_cache_Cache_Get_p0 {F K fr m} := @RK_unf F K fr m _ _ s_cache_Cache_Get_p0.eq_1
@[go_sem] def u_cache_Cache_Get_p1 {F K fr m} := @RK_unf F K fr m _ _ s_cache_Cache_Get_p1.eq_1
@[go_sem] def u_cache_Cache_Get_p2 {F K fr m} := @RK_unf F K fr m _ _ s_cache_Cache_Get_p2.eq_1
@[go_sem] def u_cache_Cache_Get_p3 {F K fr m} := @RK_unf F K fr m _ _ s_cache_Cache_Get_p3.eq_1
@[go_sem] def u_cache_Cache_Get_p4 {F K fr m} := @RK_unf F K fr m _ _ s_cache_Cache_Get_p4.eq_1
theorem t_cache_Cache_Get : tb f_cache_Cache_Get = some s_cache_Cache_Get := rfl
@[go_sem] def u_cache_Cache_Len_p0 {F K fr m} := @RK_unf F K fr m _ _ s_cache_Cache_Len_p0.eq_1
@[go_sem] def u_cache_Cache_Len_p1 {F K fr m} := @RK_unf F K fr m _ _ s_cache_Cache_Len_p1.eq_1
theorem t_cache_Cache_Len : tb f_cache_Cache_Len = some s_cache_Cache_Len := rfl
@[go_sem] def u_cache_Cache_Put_p0 {F K fr m} := @RK_unf F K fr m _ _ s_cache_Cache_Put_p0.eq_1
@[go_sem] def u_cache_Cache_Put_p1 {F K fr m} := @RK_unf F K fr m _ _ s_cache_Cache_Put_p1.eq_1
@[go_sem] def u_cache_Cache_Put_p2 {F K fr m} := @RK_unf F K fr m _ _ s_cache_Cache_Put_p2.eq_1
@[go_sem] def u_cache_Cache_Put_p3 {F K fr m} := @RK_unf F K fr m _ _ s_cache_Cache_Put_p3.eq_1
@[go_sem] def u_cache_Cache_Put_p4 {F K fr m} := @RK_unf F K fr m _ _ s_cache_Cache_Put_p4.eq_1
@[go_sem] def u_cache_Cache_Put_p5 {F K fr m} := @RK_unf F K fr m _ _ s_cache_Cache_Put_p5.eq_1
@[go_sem] def u_cache_Cache_Put_p6 {F K fr m} := @RK_unf F K fr m _ _ s_cache_Cache_Put_p6.eq_1
@[go_sem] def u_cache_Cache_Put_p7 {F K fr m} := @RK_unf F K fr m _ _ s_cache_Cache_Put_p7.eq_1
@[go_sem] def u_cache_Cache_Put_p8 {F K fr m} := @RK_unf F K fr m _ _ s_cache_Cache_Put_p8.eq_1
@[go_sem] def u_cache_Cache_Put_p9 {F K fr m} := @RK_unf F K fr m _ _ s_cache_Cache_Put_p9.eq_1
@[go_sem] def u_cache_Cache_Put_p10 {F K fr m} := @RK_unf F K fr m _ _ s_cache_Cache_Put_p10.eq_1
@[go_sem] def u_cache_Cache_Put_p11 {F K fr m} := @RK_unf F K fr m _ _ s_cache_Cache_Put_p11.eq_1
@[go_sem] def u_cache_Cache_Put_p12 {F K fr m} := @RK_unf F K fr m _ _ s_cache_Cache_Put_p12.eq_1
theorem t_cache_Cache_Put : tb f_cache_Cache_Put = some s_cache_Cache_Put := rfl
@[go_sem] def u_cache_New_p0 {F K fr m} := @RK_unf F K fr m _ _ s_cache_New_p0.eq_1
@[go_sem] def u_cache_New_p1 {F K fr m} := @RK_unf F K fr m _ _ s_cache_New_p1.eq_1
@[go_sem] def u_cache_New_p2 {F K fr m} := @RK_unf F K fr m _ _ s_cache_New_p2.eq_1
theorem t_cache_New : tb f_cache_New = some s_cache_New := rfl
@[go_sem] def u_law16_awake_p0 {F K fr m} := @RK_unf F K fr m _ _ s_law16_awake_p0.eq_1
@[go_sem] def u_law16_awake_p1 {F K fr m} := @RK_unf F K fr m _ _ s_law16_awake_p1.eq_1
@[go_sem] def u_law16_awake_p2 {F K fr m} := @RK_unf F K fr m _ _ s_law16_awake_p2.eq_1
@[go_sem] def u_law16_awake_p3 {F K fr m} := @RK_unf F K fr m _ _ s_law16_awake_p3.eq_1
@[go_sem] def u_law16_awake_p4 {F K fr m} := @RK_unf F K fr m _ _ s_law16_awake_p4.eq_1
@[go_sem] def u_law16_awake_p5 {F K fr m} := @RK_unf F K fr m _ _ s_law16_awake_p5.eq_1
@[go_sem] def u_law16_awake_p6 {F K fr m} := @RK_unf F K fr m _ _ s_law16_awake_p6.eq_1
theorem t_law16_awake : tb f_law16_awake = some s_law16_awake := rfl
@[go_sem] def u_ref10_Cells_p0 {F K fr m} := @RK_unf F K fr m _ _ s_ref10_Cells_p0.eq_1
@[go_sem] def u_ref10_Cells_p1 {F K fr m} := @RK_unf F K fr m _ _ s_ref10_Cells_p1.eq_1
@[go_sem] def u_ref10_Cells_p2 {F K fr m} := @RK_unf F K fr m _ _ s_ref10_Cells_p2.eq_1
@[go_sem] def u_ref10_Cells_p3 {F K fr m} := @RK_unf F K fr m _ _ s_ref10_Cells_p3.eq_1
@[go_sem] def u_ref10_Cells_p4 {F K fr m} := @RK_unf F K fr m _ _ s_ref10_Cells_p4.eq_1
@[go_sem] def u_ref10_Cells_p5 {F K fr m} := @RK_unf F K fr m _ _ s_ref10_Cells_p5.eq_1
@[go_sem] def u_ref10_Cells_p6 {F K fr m} := @RK_unf F K fr m _ _ s_ref10_Cells_p6.eq_1
theorem t_ref10_Cells : tb f_ref10_Cells = some s_ref10_Cells := rfl
@[go_sem] def u_ref10_Same_p0 {F K fr m} := @RK_unf F K fr m _ _ s_ref10_Same_p0.eq_1
@[go_sem] def u_ref10_Same_p1 {F K fr m} := @RK_unf F K fr m _ _ s_ref10_Same_p1.eq_1
theorem t_ref10_Same : tb f_ref10_Same = some s_ref10_Same := rfl
@[go_sem] def u_ref16_place_p0 {F K fr m} := @RK_unf F K fr m _ _ s_ref16_place_p0.eq_1
@[go_sem] def u_ref16_place_p1 {F K fr m} := @RK_unf F K fr m _ _ s_ref16_place_p1.eq_1
@[go_sem] def u_ref16_place_p2 {F K fr m} := @RK_unf F K fr m _ _ s_ref16_place_p2.eq_1
@[go_sem] def u_ref16_place_p3 {F K fr m} := @RK_unf F K fr m _ _ s_ref16_place_p3.eq_1
@[go_sem] def u_ref16_place_p4 {F K fr m} := @RK_unf F K fr m _ _ s_ref16_place_p4.eq_1
theorem t_ref16_place : tb f_ref16_place = some s_ref16_place := rfl
@[go_sem] def u_ref16_Get_p0 {F K fr m} := @RK_unf F K fr m _ _ s_ref16_Get_p0.eq_1
@[go_sem] def u_ref16_Get_p1 {F K fr m} := @RK_unf F K fr m _ _ s_ref16_Get_p1.eq_1
@[go_sem] def u_ref16_Get_p2 {F K fr m} := @RK_unf F K fr m _ _ s_ref16_Get_p2.eq_1
@[go_sem] def u_ref16_Get_p3 {F K fr m} := @RK_unf F K fr m _ _ s_ref16_Get_p3.eq_1
@[go_sem] def u_ref16_Get_p4 {F K fr m} := @RK_unf F K fr m _ _ s_ref16_Get_p4.eq_1
theorem t_ref16_Get : tb f_ref16_Get = some s_ref16_Get := rfl
@[go_sem] def u_ref16_New_p0 {F K fr m} := @RK_unf F K fr m _ _ s_ref16_New_p0.eq_1
@[go_sem] def u_ref16_New_p1 {F K fr m} := @RK_unf F K fr m _ _ s_ref16_New_p1.eq_1
@[go_sem] def u_ref16_New_p2 {F K fr m} := @RK_unf F K fr m _ _ s_ref16_New_p2.eq_1
theorem t_ref16_New : tb f_ref16_New = some s_ref16_New := rfl
@[go_sem] def u_ref16_Put_p0 {F K fr m} := @RK_unf F K fr m _ _ s_ref16_Put_p0.eq_1
@[go_sem] def u_ref16_Put_p1 {F K fr m} := @RK_unf F K fr m _ _ s_ref16_Put_p1.eq_1
@[go_sem] def u_ref16_Put_p2 {F K fr m} := @RK_unf F K fr m _ _ s_ref16_Put_p2.eq_1
@[go_sem] def u_ref16_Put_p3 {F K fr m} := @RK_unf F K fr m _ _ s_ref16_Put_p3.eq_1
@[go_sem] def u_ref16_Put_p4 {F K fr m} := @RK_unf F K fr m _ _ s_ref16_Put_p4.eq_1
@[go_sem] def u_ref16_Put_p5 {F K fr m} := @RK_unf F K fr m _ _ s_ref16_Put_p5.eq_1
@[go_sem] def u_ref16_Put_p6 {F K fr m} := @RK_unf F K fr m _ _ s_ref16_Put_p6.eq_1
@[go_sem] def u_ref16_Put_p7 {F K fr m} := @RK_unf F K fr m _ _ s_ref16_Put_p7.eq_1
@[go_sem] def u_ref16_Put_p8 {F K fr m} := @RK_unf F K fr m _ _ s_ref16_Put_p8.eq_1
@[go_sem] def u_ref16_Put_p9 {F K fr m} := @RK_unf F K fr m _ _ s_ref16_Put_p9.eq_1
@[go_sem] def u_ref16_Put_p10 {F K fr m} := @RK_unf F K fr m _ _ s_ref16_Put_p10.eq_1
@[go_sem] def u_ref16_Put_p11 {F K fr m} := @RK_unf F K fr m _ _ s_ref16_Put_p11.eq_1
@[go_sem] def u_ref16_Put_p12 {F K fr m} := @RK_unf F K fr m _ _ s_ref16_Put_p12.eq_1
@[go_sem] def u_ref16_Put_p13 {F K fr m} := @RK_unf F K fr m _ _ s_ref16_Put_p13.eq_1
theorem t_ref16_Put : tb f_ref16_Put = some s_ref16_Put := rfl
@[go_sem] def u_law16_CacheActs_p0 {F K fr m} := @RK_unf F K fr m _ _ s_law16_CacheActs_p0.eq_1
@[go_sem] def u_law16_CacheActs_p1 {F K fr m} := @RK_unf F K fr m _ _ s_law16_CacheActs_p1.eq_1
@[go_sem] def u_law16_CacheActs_p2 {F K fr m} := @RK_unf F K fr m _ _ s_law16_CacheActs_p2.eq_1
@[go_sem] def u_law16_CacheActs_p3 {F K fr m} := @RK_unf F K fr m _ _ s_law16_CacheActs_p3.eq_1
@[go_sem] def u_law16_CacheActs_p4 {F K fr m} := @RK_unf F K fr m _ _ s_law16_CacheActs_p4.eq_1
@[go_sem] def u_law16_CacheActs_p5 {F K fr m} := @RK_unf F K fr m _ _ s_law16_CacheActs_p5.eq_1
@[go_sem] def u_law16_CacheActs_p6 {F K fr m} := @RK_unf F K fr m _ _ s_law16_CacheActs_p6.eq_1
@[go_sem] def u_law16_CacheActs_p7 {F K fr m} := @RK_unf F K fr m _ _ s_law16_CacheActs_p7.eq_1
@[go_sem] def u_law16_CacheActs_p8 {F K fr m} := @RK_unf F K fr m _ _ s_law16_CacheActs_p8.eq_1
@[go_sem] def u_law16_CacheActs_p9 {F K fr m} := @RK_unf F K fr m _ _ s_law16_CacheActs_p9.eq_1
@[go_sem] def u_law16_CacheActs_p10 {F K fr m} := @RK_unf F K fr m _ _ s_law16_CacheActs_p10.eq_1
@[go_sem] def u_law16_CacheActs_p11 {F K fr m} := @RK_unf F K fr m _ _ s_law16_CacheActs_p11.eq_1
@[go_sem] def u_law16_CacheActs_p12 {F K fr m} := @RK_unf F K fr m _ _ s_law16_CacheActs_p12.eq_1
@[go_sem] def u_law16_CacheActs_p13 {F K fr m} := @RK_unf F K fr m _ _ s_law16_CacheActs_p13.eq_1
@[go_sem] def u_law16_CacheActs_p14 {F K fr m} := @RK_unf F K fr m _ _ s_law16_CacheActs_p14.eq_1
@[go_sem] def u_law16_CacheActs_p15 {F K fr m} := @RK_unf F K fr m _ _ s_law16_CacheActs_p15.eq_1
@[go_sem] def u_law16_CacheActs_p16 {F K fr m} := @RK_unf F K fr m _ _ s_law16_CacheActs_p16.eq_1
@[go_sem] def u_law16_CacheActs_p17 {F K fr m} := @RK_unf F K fr m _ _ s_law16_CacheActs_p17.eq_1
@[go_sem] def u_law16_CacheActs_p18 {F K fr m} := @RK_unf F K fr m _ _ s_law16_CacheActs_p18.eq_1
@[go_sem] def u_law16_CacheActs_p19 {F K fr m} := @RK_unf F K fr m _ _ s_law16_CacheActs_p19.eq_1
@[go_sem] def u_law16_CacheActs_p20 {F K fr m} := @RK_unf F K fr m _ _ s_law16_CacheActs_p20.eq_1
@[go_sem] def u_law16_CacheActs_p21 {F K fr m} := @RK_unf F K fr m _ _ s_law16_CacheActs_p21.eq_1
@[go_sem] def u_law16_CacheActs_p22 {F K fr m} := @RK_unf F K fr m _ _ s_law16_CacheActs_p22.eq_1
@[go_sem] def u_law16_CacheActs_p23 {F K fr m} := @RK_unf F K fr m _ _ s_law16_CacheActs_p23.eq_1
@[go_sem] def u_law16_CacheActs_p24 {F K fr m} := @RK_unf F K fr m _ _ s_law16_CacheActs_p24.eq_1
@[go_sem] def u_law16_CacheActs_p25 {F K fr m} := @RK_unf F K fr m _ _ s_law16_CacheActs_p25.eq_1
@[go_sem] def u_law16_CacheActs_p26 {F K fr m} := @RK_unf F K fr m _ _ s_law16_CacheActs_p26.eq_1
@[go_sem] def u_law16_CacheActs_p27 {F K fr m} := @RK_unf F K fr m _ _ s_law16_CacheActs_p27.eq_1
theorem t_law16_CacheActs : tb f_law16_CacheActs = some s_law16_CacheActs := rfl
end Go.Sh.T
