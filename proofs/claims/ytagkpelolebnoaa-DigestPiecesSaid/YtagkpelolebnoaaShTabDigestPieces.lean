import Derived.Test.YtagkpelolebnoaaShH
set_option linter.all false
set_option linter.unusedVariables false
set_option linter.unusedSimpArgs false
set_option autoImplicit false
set_option linter.all false
set_option maxRecDepth 4096
namespace Go.Sh.T
open Go.Sh
def f_law27_DigestPieces : FuncId := 5
def f_law27_awake : FuncId := 11
def f_digest_Of : FuncId := 12
def f_digest_Text : FuncId := 14
def f_digest_New : FuncId := 16
def f_digest_Hash_Write : FuncId := 17
def f_digest_Hash_Len : FuncId := 18
def f_digest_Hash_Sum : FuncId := 19
def f_digest_begun : FuncId := 38
def f_digest_words_block : FuncId := 39
def f_digest_high4 : FuncId := 59
def f_digest_right : FuncId := 60
def f_digest_constants : FuncId := 61
def f_math_bits_RotateLeft32 : FuncId := 78
def s_digest_Hash_Len_p0 : SCode := (.seq (.region false [⟨some 3, .mv (.t 0), none, false⟩,
  ⟨some 4, .eq false false [.ptr] (.t 3) (.v .nilp), none, false⟩]) (.cond (.t 4) (.seq (.region false [⟨some 2, .mv (.v (.int .i64 0)), none, false⟩]) .ret) .skip))
def s_digest_Hash_Len_p1 : SCode := (.region false [⟨some 5, .mv (.t 0), none, false⟩,
  ⟨some 6, .nilck (.t 5), none, false⟩,
  ⟨some 7, .faddr 9 (.t 6), none, false⟩,
  ⟨some 8, .load none (.t 7), none, false⟩,
  ⟨some 2, .mv (.t 8), none, false⟩])
def s_digest_Hash_Len : SFn := ⟨1, [.t 2], (.seq (.region false [⟨some 2, .mv (.v (.int .i64 0)), none, false⟩]) (.seq (.kp [0] s_digest_Hash_Len_p0) (.seq (.kp [2] s_digest_Hash_Len_p1) .ret)))⟩
def s_digest_constants_p0 : SCode := (.region false [⟨some 0, .alloc true [(.int .u32 0), (.int .u32 0), (.int .u32 0), (.int .u32 0), (.int .u32 0), (.int .u32 0), (.int .u32 0), (.int .u32 0), (.int .u32 0), (.int .u32 0), (.int .u32 0), (.int .u32 0), (.int .u32 0), (.int .u32 0), (.int .u32 0), (.int .u32 0), (.int .u32 0), (.int .u32 0), (.int .u32 0), (.int .u32 0), (.int .u32 0), (.int .u32 0), (.int .u32 0), (.int .u32 0), (.int .u32 0), (.int .u32 0), (.int .u32 0), (.int .u32 0), (.int .u32 0), (.int .u32 0), (.int .u32 0), (.int .u32 0), (.int .u32 0), (.int .u32 0), (.int .u32 0), (.int .u32 0), (.int .u32 0), (.int .u32 0), (.int .u32 0), (.int .u32 0), (.int .u32 0), (.int .u32 0), (.int .u32 0), (.int .u32 0), (.int .u32 0), (.int .u32 0), (.int .u32 0), (.int .u32 0), (.int .u32 0), (.int .u32 0), (.int .u32 0), (.int .u32 0), (.int .u32 0), (.int .u32 0), (.int .u32 0), (.int .u32 0), (.int .u32 0), (.int .u32 0), (.int .u32 0), (.int .u32 0), (.int .u32 0), (.int .u32 0), (.int .u32 0), (.int .u32 0)], none, false⟩])
def s_digest_constants_p1 : SCode := (.region false [⟨some 1, .build [(.int .u32 0), (.int .u32 0), (.int .u32 0), (.int .u32 0), (.int .u32 0), (.int .u32 0), (.int .u32 0), (.int .u32 0), (.int .u32 0), (.int .u32 0), (.int .u32 0), (.int .u32 0), (.int .u32 0), (.int .u32 0), (.int .u32 0), (.int .u32 0), (.int .u32 0), (.int .u32 0), (.int .u32 0), (.int .u32 0), (.int .u32 0), (.int .u32 0), (.int .u32 0), (.int .u32 0), (.int .u32 0), (.int .u32 0), (.int .u32 0), (.int .u32 0), (.int .u32 0), (.int .u32 0), (.int .u32 0), (.int .u32 0), (.int .u32 0), (.int .u32 0), (.int .u32 0), (.int .u32 0), (.int .u32 0), (.int .u32 0), (.int .u32 0), (.int .u32 0), (.int .u32 0), (.int .u32 0), (.int .u32 0), (.int .u32 0), (.int .u32 0), (.int .u32 0), (.int .u32 0), (.int .u32 0), (.int .u32 0), (.int .u32 0), (.int .u32 0), (.int .u32 0), (.int .u32 0), (.int .u32 0), (.int .u32 0), (.int .u32 0), (.int .u32 0), (.int .u32 0), (.int .u32 0), (.int .u32 0), (.int .u32 0), (.int .u32 0), (.int .u32 0), (.int .u32 0)] [(0, 1, (.v (.int .u32 1116352408))), (1, 1, (.v (.int .u32 1899447441))), (2, 1, (.v (.int .u32 3049323471))), (3, 1, (.v (.int .u32 3921009573))), (4, 1, (.v (.int .u32 961987163))), (5, 1, (.v (.int .u32 1508970993))), (6, 1, (.v (.int .u32 2453635748))), (7, 1, (.v (.int .u32 2870763221))), (8, 1, (.v (.int .u32 3624381080))), (9, 1, (.v (.int .u32 310598401))), (10, 1, (.v (.int .u32 607225278))), (11, 1, (.v (.int .u32 1426881987))), (12, 1, (.v (.int .u32 1925078388))), (13, 1, (.v (.int .u32 2162078206))), (14, 1, (.v (.int .u32 2614888103))), (15, 1, (.v (.int .u32 3248222580))), (16, 1, (.v (.int .u32 3835390401))), (17, 1, (.v (.int .u32 4022224774))), (18, 1, (.v (.int .u32 264347078))), (19, 1, (.v (.int .u32 604807628))), (20, 1, (.v (.int .u32 770255983))), (21, 1, (.v (.int .u32 1249150122))), (22, 1, (.v (.int .u32 1555081692))), (23, 1, (.v (.int .u32 1996064986))), (24, 1, (.v (.int .u32 2554220882))), (25, 1, (.v (.int .u32 2821834349))), (26, 1, (.v (.int .u32 2952996808))), (27, 1, (.v (.int .u32 3210313671))), (28, 1, (.v (.int .u32 3336571891))), (29, 1, (.v (.int .u32 3584528711))), (30, 1, (.v (.int .u32 113926993))), (31, 1, (.v (.int .u32 338241895))), (32, 1, (.v (.int .u32 666307205))), (33, 1, (.v (.int .u32 773529912))), (34, 1, (.v (.int .u32 1294757372))), (35, 1, (.v (.int .u32 1396182291))), (36, 1, (.v (.int .u32 1695183700))), (37, 1, (.v (.int .u32 1986661051))), (38, 1, (.v (.int .u32 2177026350))), (39, 1, (.v (.int .u32 2456956037))), (40, 1, (.v (.int .u32 2730485921))), (41, 1, (.v (.int .u32 2820302411))), (42, 1, (.v (.int .u32 3259730800))), (43, 1, (.v (.int .u32 3345764771))), (44, 1, (.v (.int .u32 3516065817))), (45, 1, (.v (.int .u32 3600352804))), (46, 1, (.v (.int .u32 4094571909))), (47, 1, (.v (.int .u32 275423344))), (48, 1, (.v (.int .u32 430227734))), (49, 1, (.v (.int .u32 506948616))), (50, 1, (.v (.int .u32 659060556))), (51, 1, (.v (.int .u32 883997877))), (52, 1, (.v (.int .u32 958139571))), (53, 1, (.v (.int .u32 1322822218))), (54, 1, (.v (.int .u32 1537002063))), (55, 1, (.v (.int .u32 1747873779))), (56, 1, (.v (.int .u32 1955562222))), (57, 1, (.v (.int .u32 2024104815))), (58, 1, (.v (.int .u32 2227730452))), (59, 1, (.v (.int .u32 2361852424))), (60, 1, (.v (.int .u32 2428436474))), (61, 1, (.v (.int .u32 2756734187))), (62, 1, (.v (.int .u32 3204031479))), (63, 1, (.v (.int .u32 3329325298)))], none, false⟩,
  ⟨none, .store 64 [] (.t 0) (.t 1), none, false⟩])
def s_digest_constants : SFn := ⟨0, [.cell 0 (some 64)], (.seq s_digest_constants_p0 (.seq s_digest_constants_p1 .ret))⟩
def s_digest_high4_p0 : SCode := (.region true [⟨some 3, .mv (.t 0), none, true⟩,
  ⟨some 4, .iaddr 1 (.t 3) (.v (.int .i64 0)), none, true⟩,
  ⟨some 5, .load none (.t 4), none, true⟩,
  ⟨some 6, .conv .u32 (.t 5), none, true⟩,
  ⟨some 7, .bin .shl (.t 6) (.v (.int .u64 24)), none, true⟩,
  ⟨some 8, .mv (.t 0), none, true⟩,
  ⟨some 9, .iaddr 1 (.t 8) (.v (.int .i64 1)), none, true⟩,
  ⟨some 10, .load none (.t 9), none, true⟩,
  ⟨some 11, .conv .u32 (.t 10), none, true⟩,
  ⟨some 12, .bin .shl (.t 11) (.v (.int .u64 16)), none, true⟩,
  ⟨some 13, .bin .or (.t 7) (.t 12), none, true⟩,
  ⟨some 14, .mv (.t 0), none, true⟩,
  ⟨some 15, .iaddr 1 (.t 14) (.v (.int .i64 2)), none, true⟩,
  ⟨some 16, .load none (.t 15), none, true⟩,
  ⟨some 17, .conv .u32 (.t 16), none, true⟩,
  ⟨some 18, .bin .shl (.t 17) (.v (.int .u64 8)), none, true⟩,
  ⟨some 19, .bin .or (.t 13) (.t 18), none, true⟩,
  ⟨some 20, .mv (.t 0), none, true⟩,
  ⟨some 21, .iaddr 1 (.t 20) (.v (.int .i64 3)), none, true⟩,
  ⟨some 22, .load none (.t 21), none, true⟩,
  ⟨some 23, .conv .u32 (.t 22), none, true⟩,
  ⟨some 24, .bin .or (.t 19) (.t 23), none, false⟩,
  ⟨some 2, .mv (.t 24), none, false⟩])
def s_digest_high4 : SFn := ⟨1, [.t 2], (.seq (.region false [⟨some 2, .mv (.v (.int .u32 0)), none, false⟩]) (.seq (.kp [2] s_digest_high4_p0) .ret))⟩
def s_math_bits_RotateLeft32_p0 : SCode := (.region false [⟨some 6, .mv (.t 1), none, false⟩,
  ⟨some 7, .conv .u64 (.t 6), none, false⟩,
  ⟨some 8, .bin .and (.t 7) (.v (.int .u64 31)), none, false⟩,
  ⟨some 5, .mv (.t 8), none, false⟩])
def s_math_bits_RotateLeft32_p1 : SCode := (.region false [⟨some 9, .mv (.t 0), none, false⟩,
  ⟨some 10, .mv (.t 5), none, false⟩,
  ⟨some 11, .bin .shl (.t 9) (.t 10), none, false⟩,
  ⟨some 12, .mv (.t 0), none, false⟩,
  ⟨some 13, .mv (.t 5), none, false⟩,
  ⟨some 14, .bin .sub (.v (.int .u64 32)) (.t 13), none, false⟩,
  ⟨some 15, .bin .shr (.t 12) (.t 14), none, false⟩,
  ⟨some 16, .bin .or (.t 11) (.t 15), none, false⟩,
  ⟨some 4, .mv (.t 16), none, false⟩])
def s_math_bits_RotateLeft32 : SFn := ⟨2, [.t 4], (.seq (.region false [⟨some 4, .mv (.v (.int .u32 0)), none, false⟩]) (.seq s_math_bits_RotateLeft32_p0 (.seq (.kp [4] s_math_bits_RotateLeft32_p1) .ret)))⟩
def s_digest_right_p0 : SCode := (.region false [⟨some 5, .mv (.t 0), none, false⟩,
  ⟨some 6, .mv (.t 1), none, false⟩,
  ⟨some 7, .un .neg (.t 6), none, false⟩,
  ⟨some 8, .call f_math_bits_RotateLeft32 [(.t 5), (.t 7)], none, false⟩,
  ⟨some 4, .mv (.t 8), none, false⟩])
def s_digest_right : SFn := ⟨2, [.t 4], (.seq (.region false [⟨some 4, .mv (.v (.int .u32 0)), none, false⟩]) (.seq (.kp [4] s_digest_right_p0) .ret))⟩
def s_digest_words_block_p0 : SCode := (.region false [⟨some 4, .alloc true [(.int .u32 0), (.int .u32 0), (.int .u32 0), (.int .u32 0), (.int .u32 0), (.int .u32 0), (.int .u32 0), (.int .u32 0), (.int .u32 0), (.int .u32 0), (.int .u32 0), (.int .u32 0), (.int .u32 0), (.int .u32 0), (.int .u32 0), (.int .u32 0), (.int .u32 0), (.int .u32 0), (.int .u32 0), (.int .u32 0), (.int .u32 0), (.int .u32 0), (.int .u32 0), (.int .u32 0), (.int .u32 0), (.int .u32 0), (.int .u32 0), (.int .u32 0), (.int .u32 0), (.int .u32 0), (.int .u32 0), (.int .u32 0), (.int .u32 0), (.int .u32 0), (.int .u32 0), (.int .u32 0), (.int .u32 0), (.int .u32 0), (.int .u32 0), (.int .u32 0), (.int .u32 0), (.int .u32 0), (.int .u32 0), (.int .u32 0), (.int .u32 0), (.int .u32 0), (.int .u32 0), (.int .u32 0), (.int .u32 0), (.int .u32 0), (.int .u32 0), (.int .u32 0), (.int .u32 0), (.int .u32 0), (.int .u32 0), (.int .u32 0), (.int .u32 0), (.int .u32 0), (.int .u32 0), (.int .u32 0), (.int .u32 0), (.int .u32 0), (.int .u32 0), (.int .u32 0)], none, false⟩])
def s_digest_words_block_p1 : SCode := (.region false [⟨some 20, .mv (.t 5), none, false⟩,
  ⟨some 21, .mv (.t 1), none, false⟩,
  ⟨some 22, .mv (.t 5), none, false⟩,
  ⟨some 23, .bin .mul (.v (.int .i64 4)) (.t 22), none, false⟩,
  ⟨some 24, .slice 1 (.t 21) (some (.t 23)) none none, none, false⟩,
  ⟨some 25, .call f_digest_high4 [(.t 24)], none, false⟩,
  ⟨some 26, .iaddrA 64 1 (.t 4) (.t 20), none, false⟩,
  ⟨none, .store 1 [] (.t 26) (.t 25), none, false⟩])
def s_digest_words_block_p2 : SCode := (.seq (.kp [0, 1, 4, 17] (.block 1 (.seq (.region false [⟨some 19, .mv (.t 17), none, false⟩,
  ⟨some 5, .mv (.t 19), none, false⟩]) s_digest_words_block_p1))) (.region false [⟨some 27, .bin .add (.t 17) (.v (.int .i64 1)), none, false⟩,
  ⟨some 17, .mv (.t 27), none, false⟩]))
def s_digest_words_block_p3 : SCode := (.seq (.region false [⟨some 18, .bin .lss (.t 17) (.v (.int .i64 16)), none, false⟩]) (.seq (.kp [0, 1, 4, 17] (.cond (.t 18) .skip (.exit 0))) s_digest_words_block_p2))
def s_digest_words_block_p4 : SCode := (.region true [⟨some 32, .mv (.t 6), none, true⟩,
  ⟨some 33, .bin .sub (.t 32) (.v (.int .i64 15)), none, true⟩,
  ⟨some 34, .iaddrA 64 1 (.t 4) (.t 33), none, true⟩,
  ⟨some 35, .load none (.t 34), none, true⟩,
  ⟨some 36, .mv (.t 6), none, true⟩,
  ⟨some 37, .bin .sub (.t 36) (.v (.int .i64 2)), none, true⟩,
  ⟨some 38, .iaddrA 64 1 (.t 4) (.t 37), none, true⟩,
  ⟨some 39, .load none (.t 38), none, true⟩,
  ⟨some 7, .mv (.t 35), none, true⟩,
  ⟨some 8, .mv (.t 39), none, false⟩])
def s_digest_words_block_p5 : SCode := (.region true [⟨some 40, .mv (.t 6), none, true⟩,
  ⟨some 41, .mv (.t 6), none, true⟩,
  ⟨some 42, .bin .sub (.t 41) (.v (.int .i64 16)), none, true⟩,
  ⟨some 43, .iaddrA 64 1 (.t 4) (.t 42), none, true⟩,
  ⟨some 44, .load none (.t 43), none, true⟩,
  ⟨some 45, .mv (.t 6), none, true⟩,
  ⟨some 46, .bin .sub (.t 45) (.v (.int .i64 7)), none, true⟩,
  ⟨some 47, .iaddrA 64 1 (.t 4) (.t 46), none, true⟩,
  ⟨some 48, .load none (.t 47), none, true⟩,
  ⟨some 49, .bin .add (.t 44) (.t 48), none, true⟩,
  ⟨some 50, .mv (.t 7), none, true⟩,
  ⟨some 52, .mv (.t 7), none, true⟩,
  ⟨some 55, .mv (.t 7), none, true⟩,
  ⟨some 56, .bin .shr (.t 55) (.v (.int .u64 3)), none, true⟩,
  ⟨some 59, .mv (.t 8), none, true⟩,
  ⟨some 61, .mv (.t 8), none, true⟩,
  ⟨some 64, .mv (.t 8), none, true⟩,
  ⟨some 65, .bin .shr (.t 64) (.v (.int .u64 10)), none, true⟩,
  ⟨some 51, .call f_digest_right [(.t 50), (.v (.int .i64 7))], none, true⟩,
  ⟨some 53, .call f_digest_right [(.t 52), (.v (.int .i64 18))], none, true⟩,
  ⟨some 54, .bin .xor (.t 51) (.t 53), none, true⟩,
  ⟨some 57, .bin .xor (.t 54) (.t 56), none, true⟩,
  ⟨some 58, .bin .add (.t 49) (.t 57), none, true⟩,
  ⟨some 60, .call f_digest_right [(.t 59), (.v (.int .i64 17))], none, true⟩,
  ⟨some 62, .call f_digest_right [(.t 61), (.v (.int .i64 19))], none, true⟩,
  ⟨some 63, .bin .xor (.t 60) (.t 62), none, true⟩,
  ⟨some 66, .bin .xor (.t 63) (.t 65), none, true⟩,
  ⟨some 67, .bin .add (.t 58) (.t 66), none, false⟩,
  ⟨some 68, .iaddrA 64 1 (.t 4) (.t 40), none, false⟩,
  ⟨none, .store 1 [] (.t 68) (.t 67), none, false⟩])
def s_digest_words_block_p6 : SCode := (.seq (.kp [0, 4, 6] (.block 3 (.seq (.kp [0, 4, 6, 7, 8] s_digest_words_block_p4) s_digest_words_block_p5))) (.region false [⟨some 30, .mv (.t 6), none, false⟩,
  ⟨some 31, .bin .add (.t 30) (.v (.int .i64 1)), none, false⟩,
  ⟨some 6, .mv (.t 31), none, false⟩]))
def s_digest_words_block_p7 : SCode := (.seq (.kp [0, 4, 6] (.seq (.region false [⟨some 28, .mv (.t 6), none, false⟩,
  ⟨some 29, .bin .lss (.t 28) (.v (.int .i64 64)), none, false⟩]) (.cond (.t 29) .skip (.exit 2)))) s_digest_words_block_p6)
def s_digest_words_block_p8 : SCode := (.region false [⟨some 69, .mv (.t 0), none, false⟩,
  ⟨some 70, .nilck (.t 69), none, false⟩,
  ⟨some 71, .load (some 8) (.t 70), none, false⟩,
  ⟨some 9, .alloc false [(.int .u32 0), (.int .u32 0), (.int .u32 0), (.int .u32 0), (.int .u32 0), (.int .u32 0), (.int .u32 0), (.int .u32 0)], none, false⟩,
  ⟨none, .store 8 [] (.t 9) (.t 71), none, false⟩])
def s_digest_words_block_p9 : SCode := (.region false [⟨some 75, .mv (.t 73), none, false⟩,
  ⟨some 76, .idxA 64 1 false (.t 72) (.t 73), none, false⟩,
  ⟨some 10, .mv (.t 75), none, false⟩,
  ⟨some 11, .mv (.t 76), none, false⟩])
def s_digest_words_block_p10 : SCode := (.region true [⟨some 77, .iaddrA 8 1 (.t 9) (.v (.int .i64 0)), none, true⟩,
  ⟨some 78, .load none (.t 77), none, true⟩,
  ⟨some 79, .iaddrA 8 1 (.t 9) (.v (.int .i64 4)), none, true⟩,
  ⟨some 80, .load none (.t 79), none, true⟩,
  ⟨some 12, .mv (.t 78), none, true⟩,
  ⟨some 13, .mv (.t 80), none, false⟩])
def s_digest_words_block_p11 : SCode := (.region true [⟨some 81, .iaddrA 8 1 (.t 9) (.v (.int .i64 7)), none, true⟩,
  ⟨some 82, .load none (.t 81), none, true⟩,
  ⟨some 83, .mv (.t 13), none, true⟩,
  ⟨some 85, .mv (.t 13), none, true⟩,
  ⟨some 88, .mv (.t 13), none, true⟩,
  ⟨some 92, .mv (.t 13), none, true⟩,
  ⟨some 93, .iaddrA 8 1 (.t 9) (.v (.int .i64 5)), none, true⟩,
  ⟨some 94, .load none (.t 93), none, true⟩,
  ⟨some 95, .bin .and (.t 92) (.t 94), none, true⟩,
  ⟨some 96, .mv (.t 13), none, true⟩,
  ⟨some 97, .un .xor (.t 96), none, true⟩,
  ⟨some 98, .iaddrA 8 1 (.t 9) (.v (.int .i64 6)), none, true⟩,
  ⟨some 99, .load none (.t 98), none, true⟩,
  ⟨some 100, .bin .and (.t 97) (.t 99), none, true⟩,
  ⟨some 101, .bin .xor (.t 95) (.t 100), none, true⟩,
  ⟨some 103, .mv (.t 11), none, true⟩,
  ⟨some 105, .mv (.t 10), none, true⟩,
  ⟨some 106, .iaddrA 64 1 (.t 4) (.t 105), none, true⟩,
  ⟨some 107, .load none (.t 106), none, true⟩,
  ⟨some 84, .call f_digest_right [(.t 83), (.v (.int .i64 6))], none, true⟩,
  ⟨some 86, .call f_digest_right [(.t 85), (.v (.int .i64 11))], none, true⟩,
  ⟨some 87, .bin .xor (.t 84) (.t 86), none, true⟩,
  ⟨some 89, .call f_digest_right [(.t 88), (.v (.int .i64 25))], none, true⟩,
  ⟨some 90, .bin .xor (.t 87) (.t 89), none, true⟩,
  ⟨some 91, .bin .add (.t 82) (.t 90), none, true⟩,
  ⟨some 102, .bin .add (.t 91) (.t 101), none, true⟩,
  ⟨some 104, .bin .add (.t 102) (.t 103), none, true⟩,
  ⟨some 108, .bin .add (.t 104) (.t 107), none, false⟩,
  ⟨some 14, .mv (.t 108), none, false⟩])
def s_digest_words_block_p12 : SCode := (.region true [⟨some 109, .mv (.t 12), none, true⟩,
  ⟨some 111, .mv (.t 12), none, true⟩,
  ⟨some 114, .mv (.t 12), none, true⟩,
  ⟨some 117, .mv (.t 12), none, true⟩,
  ⟨some 118, .iaddrA 8 1 (.t 9) (.v (.int .i64 1)), none, true⟩,
  ⟨some 119, .load none (.t 118), none, true⟩,
  ⟨some 120, .bin .and (.t 117) (.t 119), none, true⟩,
  ⟨some 121, .mv (.t 12), none, true⟩,
  ⟨some 122, .iaddrA 8 1 (.t 9) (.v (.int .i64 2)), none, true⟩,
  ⟨some 123, .load none (.t 122), none, true⟩,
  ⟨some 124, .bin .and (.t 121) (.t 123), none, true⟩,
  ⟨some 125, .bin .xor (.t 120) (.t 124), none, true⟩,
  ⟨some 126, .iaddrA 8 1 (.t 9) (.v (.int .i64 1)), none, true⟩,
  ⟨some 127, .load none (.t 126), none, true⟩,
  ⟨some 128, .iaddrA 8 1 (.t 9) (.v (.int .i64 2)), none, true⟩,
  ⟨some 129, .load none (.t 128), none, true⟩,
  ⟨some 130, .bin .and (.t 127) (.t 129), none, true⟩,
  ⟨some 131, .bin .xor (.t 125) (.t 130), none, true⟩,
  ⟨some 110, .call f_digest_right [(.t 109), (.v (.int .i64 2))], none, true⟩,
  ⟨some 112, .call f_digest_right [(.t 111), (.v (.int .i64 13))], none, true⟩,
  ⟨some 113, .bin .xor (.t 110) (.t 112), none, true⟩,
  ⟨some 115, .call f_digest_right [(.t 114), (.v (.int .i64 22))], none, true⟩,
  ⟨some 116, .bin .xor (.t 113) (.t 115), none, true⟩,
  ⟨some 132, .bin .add (.t 116) (.t 131), none, false⟩,
  ⟨some 15, .mv (.t 132), none, false⟩])
def s_digest_words_block_p13 : SCode := (.region true [⟨some 133, .sliceArr 8 1 (.t 9) (some (.v (.int .i64 1))) none none, none, true⟩,
  ⟨some 134, .sliceArr 8 1 (.t 9) none (some (.v (.int .i64 7))) none, none, true⟩,
  ⟨some 135, .copy 1 (.t 133) (.t 134), none, false⟩])
def s_digest_words_block_p14 : SCode := (.region false [⟨some 136, .iaddrA 8 1 (.t 9) (.v (.int .i64 4)), none, false⟩,
  ⟨some 137, .load none (.t 136), none, false⟩,
  ⟨some 138, .mv (.t 14), none, false⟩,
  ⟨some 139, .bin .add (.t 137) (.t 138), none, false⟩,
  ⟨some 140, .iaddrA 8 1 (.t 9) (.v (.int .i64 4)), none, false⟩,
  ⟨none, .store 1 [] (.t 140) (.t 139), none, false⟩])
def s_digest_words_block_p15 : SCode := (.region false [⟨some 141, .mv (.t 14), none, false⟩,
  ⟨some 142, .mv (.t 15), none, false⟩,
  ⟨some 143, .bin .add (.t 141) (.t 142), none, false⟩,
  ⟨some 144, .iaddrA 8 1 (.t 9) (.v (.int .i64 0)), none, false⟩,
  ⟨none, .store 1 [] (.t 144) (.t 143), none, false⟩])
def s_digest_words_block_p16 : SCode := (.seq (.kp [0, 4, 9, 10, 11, 12, 13, 72, 73] s_digest_words_block_p10) (.seq (.kp [0, 4, 9, 12, 14, 72, 73] s_digest_words_block_p11) (.seq (.kp [0, 4, 9, 14, 15, 72, 73] s_digest_words_block_p12) (.seq s_digest_words_block_p13 (.seq (.kp [0, 4, 9, 14, 15, 72, 73] s_digest_words_block_p14) s_digest_words_block_p15)))))
def s_digest_words_block_p17 : SCode := (.seq (.kp [0, 4, 9, 72, 73] (.block 5 (.seq s_digest_words_block_p9 s_digest_words_block_p16))) (.region false [⟨some 145, .bin .add (.t 73) (.v (.int .i64 1)), none, false⟩,
  ⟨some 73, .mv (.t 145), none, false⟩]))
def s_digest_words_block_p18 : SCode := (.seq (.region false [⟨some 74, .bin .lss (.t 73) (.v (.int .i64 64)), none, false⟩]) (.seq (.kp [0, 4, 9, 72, 73] (.cond (.t 74) .skip (.exit 4))) s_digest_words_block_p17))
def s_digest_words_block_p19 : SCode := (.seq (.kp [0, 4, 9, 72, 73] (.region false [⟨some 72, .call f_digest_constants [], none, false⟩,
  ⟨some 73, .mv (.v (.int .i64 0)), none, false⟩])) (.block 4 (.loop (some [0, 4, 9, 72, 73]) s_digest_words_block_p18)))
def s_digest_words_block_p20 : SCode := (.region true [⟨some 149, .mv (.t 0), none, true⟩,
  ⟨some 150, .mv (.t 16), none, true⟩,
  ⟨some 151, .nilck (.t 149), none, true⟩,
  ⟨some 152, .iaddrA 8 1 (.t 151) (.t 150), none, true⟩,
  ⟨some 153, .load none (.t 152), none, true⟩,
  ⟨some 154, .mv (.t 16), none, true⟩,
  ⟨some 155, .iaddrA 8 1 (.t 9) (.t 154), none, true⟩,
  ⟨some 156, .load none (.t 155), none, true⟩,
  ⟨some 157, .bin .add (.t 153) (.t 156), none, false⟩,
  ⟨some 158, .nilck (.t 149), none, true⟩,
  ⟨some 159, .iaddrA 8 1 (.t 158) (.t 150), none, false⟩,
  ⟨none, .store 1 [] (.t 159) (.t 157), none, false⟩])
def s_digest_words_block_p21 : SCode := (.seq (.kp [0, 9, 146] (.block 7 (.seq (.region false [⟨some 148, .mv (.t 146), none, false⟩,
  ⟨some 16, .mv (.t 148), none, false⟩]) s_digest_words_block_p20))) (.region false [⟨some 160, .bin .add (.t 146) (.v (.int .i64 1)), none, false⟩,
  ⟨some 146, .mv (.t 160), none, false⟩]))
def s_digest_words_block_p22 : SCode := (.seq (.region false [⟨some 147, .bin .lss (.t 146) (.v (.int .i64 8)), none, false⟩]) (.seq (.kp [0, 9, 146] (.cond (.t 147) .skip (.exit 6))) s_digest_words_block_p21))
def s_digest_words_block_p23 : SCode := (.seq (.kp [0, 4, 9] s_digest_words_block_p8) (.seq (.kp [0, 9] s_digest_words_block_p19) (.seq (.kp [0, 9, 146] (.region false [⟨some 146, .mv (.v (.int .i64 0)), none, false⟩])) (.block 6 (.loop (some [0, 9, 146]) s_digest_words_block_p22)))))
def s_digest_words_block_p24 : SCode := (.seq (.kp [0, 4] (.seq (.kp [0, 1, 4, 17] (.region false [⟨some 17, .mv (.v (.int .i64 0)), none, false⟩])) (.block 0 (.loop (some [0, 1, 4, 17]) s_digest_words_block_p3)))) (.seq (.kp [0, 4] (.seq (.kp [0, 4, 6] (.region false [⟨some 6, .mv (.v (.int .i64 16)), none, false⟩])) (.block 2 (.loop (some [0, 4, 6]) s_digest_words_block_p7)))) s_digest_words_block_p23))
def s_digest_words_block : SFn := ⟨2, [], (.seq s_digest_words_block_p0 s_digest_words_block_p24)⟩
def s_digest_Hash_Sum_p0 : SCode := (.region false [⟨some 2, .alloc true [(.int .u8 0), (.int .u8 0), (.int .u8 0), (.int .u8 0), (.int .u8 0), (.int .u8 0), (.int .u8 0), (.int .u8 0), (.int .u8 0), (.int .u8 0), (.int .u8 0), (.int .u8 0), (.int .u8 0), (.int .u8 0), (.int .u8 0), (.int .u8 0), (.int .u8 0), (.int .u8 0), (.int .u8 0), (.int .u8 0), (.int .u8 0), (.int .u8 0), (.int .u8 0), (.int .u8 0), (.int .u8 0), (.int .u8 0), (.int .u8 0), (.int .u8 0), (.int .u8 0), (.int .u8 0), (.int .u8 0), (.int .u8 0)], none, false⟩])
def s_digest_Hash_Sum_p1 : SCode := (.region false [⟨some 3, .alloc true [(.int .u8 0), (.int .u8 0), (.int .u8 0), (.int .u8 0), (.int .u8 0), (.int .u8 0), (.int .u8 0), (.int .u8 0), (.int .u8 0), (.int .u8 0), (.int .u8 0), (.int .u8 0), (.int .u8 0), (.int .u8 0), (.int .u8 0), (.int .u8 0), (.int .u8 0), (.int .u8 0), (.int .u8 0), (.int .u8 0), (.int .u8 0), (.int .u8 0), (.int .u8 0), (.int .u8 0), (.int .u8 0), (.int .u8 0), (.int .u8 0), (.int .u8 0), (.int .u8 0), (.int .u8 0), (.int .u8 0), (.int .u8 0)], none, false⟩])
def s_digest_Hash_Sum_p2 : SCode := (.region false [⟨some 9, .mv (.t 0), none, false⟩,
  ⟨some 10, .eq false false [.ptr] (.t 9) (.v .nilp), none, false⟩,
  ⟨some 11, .mv (.t 10), none, false⟩,
  ⟨some 12, .mv (.t 0), (some (11, false)), false⟩,
  ⟨some 13, .nilck (.t 12), (some (11, false)), false⟩,
  ⟨some 14, .faddr 10 (.t 13), (some (11, false)), false⟩,
  ⟨some 15, .load none (.t 14), (some (11, false)), false⟩,
  ⟨some 16, .un .not (.t 15), (some (11, false)), false⟩,
  ⟨some 17, .pick (.t 11) (.v (.bool true)) (.t 16), none, false⟩])
def s_digest_Hash_Sum_p3 : SCode := (.seq (.kp [0, 2, 3, 17] s_digest_Hash_Sum_p2) (.cond (.t 17) (.seq (.region false [⟨some 18, .load (some 32) (.t 3), none, false⟩,
  ⟨none, .store 32 [] (.t 2) (.t 18), none, false⟩]) .ret) .skip))
def s_digest_Hash_Sum_p4 : SCode := (.region false [⟨some 19, .mv (.t 0), none, false⟩,
  ⟨some 20, .nilck (.t 19), none, false⟩,
  ⟨some 21, .faddr 0 (.t 20), none, false⟩,
  ⟨some 22, .load (some 8) (.t 21), none, false⟩,
  ⟨some 4, .alloc true [(.int .u32 0), (.int .u32 0), (.int .u32 0), (.int .u32 0), (.int .u32 0), (.int .u32 0), (.int .u32 0), (.int .u32 0)], none, false⟩,
  ⟨none, .store 8 [] (.t 4) (.t 22), none, false⟩])
def s_digest_Hash_Sum_p5 : SCode := (.region false [⟨some 23, .bslice [] 0 1 [], none, false⟩,
  ⟨some 24, .mv (.t 0), none, false⟩,
  ⟨some 25, .nilck (.t 24), none, false⟩,
  ⟨some 26, .faddr 8 (.t 25), none, false⟩,
  ⟨some 27, .load none (.t 26), none, false⟩,
  ⟨some 28, .append 1 1 [(.int .u8 0)] [] (.t 23) (.t 27), none, false⟩,
  ⟨some 29, .bslice [(.int .u8 0)] 1 1 [(0, 1, (.v (.int .u8 128)))], none, false⟩,
  ⟨some 30, .append 1 1 [(.int .u8 0)] [] (.t 28) (.t 29), none, false⟩,
  ⟨some 5, .mv (.t 30), none, false⟩])
def s_digest_Hash_Sum_p6 : SCode := (.region false [⟨some 31, .mv (.t 5), none, false⟩,
  ⟨some 32, .len (.t 31), none, false⟩,
  ⟨some 33, .bin .rem (.t 32) (.v (.int .i64 64)), none, false⟩,
  ⟨some 34, .bin .neq (.t 33) (.v (.int .i64 56)), none, false⟩])
def s_digest_Hash_Sum_p7 : SCode := (.region false [⟨some 35, .mv (.t 5), none, false⟩,
  ⟨some 36, .bslice [(.int .u8 0)] 1 1 [(0, 1, (.v (.int .u8 0)))], none, false⟩,
  ⟨some 37, .append 1 1 [(.int .u8 0)] [] (.t 35) (.t 36), none, false⟩,
  ⟨some 5, .mv (.t 37), none, false⟩])
def s_digest_Hash_Sum_p8 : SCode := (.seq (.kp [0, 2, 3, 4, 5] (.seq s_digest_Hash_Sum_p6 (.cond (.t 34) .skip (.exit 0)))) (.block 1 s_digest_Hash_Sum_p7))
def s_digest_Hash_Sum_p9 : SCode := (.region false [⟨some 42, .mv (.t 5), none, false⟩,
  ⟨some 43, .mv (.t 0), none, false⟩,
  ⟨some 44, .nilck (.t 43), none, false⟩,
  ⟨some 45, .faddr 9 (.t 44), none, false⟩,
  ⟨some 46, .load none (.t 45), none, false⟩,
  ⟨some 47, .conv .u64 (.t 46), none, false⟩,
  ⟨some 48, .bin .shl (.t 47) (.v (.int .u64 3)), none, false⟩,
  ⟨some 49, .mv (.t 6), none, false⟩,
  ⟨some 50, .bin .shr (.t 48) (.t 49), none, false⟩,
  ⟨some 51, .conv .u8 (.t 50), none, false⟩,
  ⟨some 52, .bslice [(.int .u8 0)] 1 1 [(0, 1, (.t 51))], none, false⟩,
  ⟨some 53, .append 1 1 [(.int .u8 0)] [] (.t 42) (.t 52), none, false⟩,
  ⟨some 5, .mv (.t 53), none, false⟩])
def s_digest_Hash_Sum_p10 : SCode := (.seq (.kp [0, 2, 3, 4, 5, 6] (.block 3 s_digest_Hash_Sum_p9)) (.region false [⟨some 40, .mv (.t 6), none, false⟩,
  ⟨some 41, .bin .sub (.t 40) (.v (.int .i64 8)), none, false⟩,
  ⟨some 6, .mv (.t 41), none, false⟩]))
def s_digest_Hash_Sum_p11 : SCode := (.seq (.kp [0, 2, 3, 4, 5, 6] (.seq (.region false [⟨some 38, .mv (.t 6), none, false⟩,
  ⟨some 39, .bin .geq (.t 38) (.v (.int .i64 0)), none, false⟩]) (.cond (.t 39) .skip (.exit 2)))) s_digest_Hash_Sum_p10)
def s_digest_Hash_Sum_p12 : SCode := (.seq (.region false [⟨some 54, .mv (.t 5), none, false⟩,
  ⟨some 55, .len (.t 54), none, false⟩,
  ⟨some 56, .bin .gtr (.t 55) (.v (.int .i64 0)), none, false⟩]) (.cond (.t 56) .skip (.exit 4)))
def s_digest_Hash_Sum_p13 : SCode := (.region false [⟨some 59, .mv (.t 5), none, false⟩,
  ⟨some 60, .slice 1 (.t 59) none (some (.v (.int .i64 64))) none, none, false⟩,
  ⟨some 61, .call f_digest_words_block [(.t 4), (.t 60)], none, false⟩])
def s_digest_Hash_Sum_p14 : SCode := (.seq (.kp [2, 3, 4, 5] (.block 5 s_digest_Hash_Sum_p13)) (.region false [⟨some 57, .mv (.t 5), none, false⟩,
  ⟨some 58, .slice 1 (.t 57) (some (.v (.int .i64 64))) none none, none, false⟩,
  ⟨some 5, .mv (.t 58), none, false⟩]))
def s_digest_Hash_Sum_p15 : SCode := (.seq (.kp [2, 3, 4, 5] s_digest_Hash_Sum_p12) s_digest_Hash_Sum_p14)
def s_digest_Hash_Sum_p16 : SCode := (.region false [⟨some 65, .mv (.t 63), none, false⟩,
  ⟨some 66, .idxA 8 1 false (.t 62) (.t 63), none, false⟩,
  ⟨some 7, .mv (.t 65), none, false⟩,
  ⟨some 8, .mv (.t 66), none, false⟩])
def s_digest_Hash_Sum_p17 : SCode := (.region false [⟨some 67, .mv (.t 7), none, false⟩,
  ⟨some 68, .bin .mul (.v (.int .i64 4)) (.t 67), none, false⟩,
  ⟨some 69, .mv (.t 7), none, false⟩,
  ⟨some 70, .bin .mul (.v (.int .i64 4)) (.t 69), none, false⟩,
  ⟨some 71, .bin .add (.t 70) (.v (.int .i64 1)), none, false⟩,
  ⟨some 72, .mv (.t 7), none, false⟩,
  ⟨some 73, .bin .mul (.v (.int .i64 4)) (.t 72), none, false⟩,
  ⟨some 74, .bin .add (.t 73) (.v (.int .i64 2)), none, false⟩,
  ⟨some 75, .mv (.t 7), none, false⟩,
  ⟨some 76, .bin .mul (.v (.int .i64 4)) (.t 75), none, false⟩,
  ⟨some 77, .bin .add (.t 76) (.v (.int .i64 3)), none, false⟩,
  ⟨some 78, .mv (.t 8), none, false⟩,
  ⟨some 79, .bin .shr (.t 78) (.v (.int .u64 24)), none, false⟩,
  ⟨some 80, .conv .u8 (.t 79), none, false⟩,
  ⟨some 81, .mv (.t 8), none, false⟩,
  ⟨some 82, .bin .shr (.t 81) (.v (.int .u64 16)), none, false⟩,
  ⟨some 83, .conv .u8 (.t 82), none, false⟩,
  ⟨some 84, .mv (.t 8), none, false⟩,
  ⟨some 85, .bin .shr (.t 84) (.v (.int .u64 8)), none, false⟩,
  ⟨some 86, .conv .u8 (.t 85), none, false⟩,
  ⟨some 87, .mv (.t 8), none, false⟩,
  ⟨some 88, .conv .u8 (.t 87), none, false⟩,
  ⟨some 89, .iaddrA 32 1 (.t 3) (.t 68), none, false⟩,
  ⟨none, .store 1 [] (.t 89) (.t 80), none, false⟩,
  ⟨some 90, .iaddrA 32 1 (.t 3) (.t 71), none, false⟩,
  ⟨none, .store 1 [] (.t 90) (.t 83), none, false⟩,
  ⟨some 91, .iaddrA 32 1 (.t 3) (.t 74), none, false⟩,
  ⟨none, .store 1 [] (.t 91) (.t 86), none, false⟩,
  ⟨some 92, .iaddrA 32 1 (.t 3) (.t 77), none, false⟩,
  ⟨none, .store 1 [] (.t 92) (.t 88), none, false⟩])
def s_digest_Hash_Sum_p18 : SCode := (.seq (.kp [2, 3, 62, 63] (.cond (.t 64) .skip (.exit 6))) (.seq (.kp [2, 3, 62, 63] (.block 7 (.seq s_digest_Hash_Sum_p16 s_digest_Hash_Sum_p17))) (.region false [⟨some 93, .bin .add (.t 63) (.v (.int .i64 1)), none, false⟩,
  ⟨some 63, .mv (.t 93), none, false⟩])))
def s_digest_Hash_Sum_p19 : SCode := (.seq (.region false [⟨some 64, .bin .lss (.t 63) (.v (.int .i64 8)), none, false⟩]) s_digest_Hash_Sum_p18)
def s_digest_Hash_Sum_p20 : SCode := (.seq (.kp [2, 3, 62, 63] (.region false [⟨some 62, .load (some 8) (.t 4), none, false⟩,
  ⟨some 63, .mv (.v (.int .i64 0)), none, false⟩])) (.block 6 (.loop (some [2, 3, 62, 63]) s_digest_Hash_Sum_p19)))
def s_digest_Hash_Sum_p21 : SCode := (.seq (.kp [2, 3, 4] (.block 4 (.loop (some [2, 3, 4, 5]) s_digest_Hash_Sum_p15))) (.seq (.kp [2, 3] s_digest_Hash_Sum_p20) (.seq (.region false [⟨some 94, .load (some 32) (.t 3), none, false⟩,
  ⟨none, .store 32 [] (.t 2) (.t 94), none, false⟩]) .ret)))
def s_digest_Hash_Sum_p22 : SCode := (.seq (.kp [2, 3, 4, 5] (.seq (.kp [0, 2, 3, 4, 5, 6] (.region false [⟨some 6, .mv (.v (.int .i64 56)), none, false⟩])) (.block 2 (.loop (some [0, 2, 3, 4, 5, 6]) s_digest_Hash_Sum_p11)))) s_digest_Hash_Sum_p21)
def s_digest_Hash_Sum_p23 : SCode := (.seq (.kp [0, 2, 3] s_digest_Hash_Sum_p3) (.seq (.kp [0, 2, 3, 4] s_digest_Hash_Sum_p4) (.seq (.kp [0, 2, 3, 4, 5] s_digest_Hash_Sum_p5) (.seq (.kp [0, 2, 3, 4, 5] (.block 0 (.loop (some [0, 2, 3, 4, 5]) s_digest_Hash_Sum_p8))) s_digest_Hash_Sum_p22))))
def s_digest_Hash_Sum : SFn := ⟨1, [.cell 2 (some 32)], (.seq s_digest_Hash_Sum_p0 (.seq s_digest_Hash_Sum_p1 s_digest_Hash_Sum_p23))⟩
def s_digest_Hash_Write_p0 : SCode := (.region false [⟨some 4, .mv (.t 0), none, false⟩,
  ⟨some 5, .eq false false [.ptr] (.t 4) (.v .nilp), none, false⟩,
  ⟨some 6, .mv (.t 5), none, false⟩,
  ⟨some 7, .mv (.t 0), (some (6, false)), false⟩,
  ⟨some 8, .nilck (.t 7), (some (6, false)), false⟩,
  ⟨some 9, .faddr 10 (.t 8), (some (6, false)), false⟩,
  ⟨some 10, .load none (.t 9), (some (6, false)), false⟩,
  ⟨some 11, .un .not (.t 10), (some (6, false)), false⟩,
  ⟨some 12, .pick (.t 6) (.v (.bool true)) (.t 11), none, false⟩])
def s_digest_Hash_Write_p1 : SCode := (.region false [⟨some 13, .mv (.t 0), none, false⟩,
  ⟨some 14, .nilck (.t 13), none, false⟩,
  ⟨some 15, .faddr 9 (.t 14), none, false⟩,
  ⟨some 16, .load none (.t 15), none, false⟩,
  ⟨some 17, .mv (.t 1), none, false⟩,
  ⟨some 18, .len (.t 17), none, false⟩,
  ⟨some 19, .bin .add (.t 16) (.t 18), none, false⟩,
  ⟨some 20, .nilck (.t 13), none, false⟩,
  ⟨some 21, .faddr 9 (.t 20), none, false⟩,
  ⟨none, .store 1 [] (.t 21) (.t 19), none, false⟩])
def s_digest_Hash_Write_p2 : SCode := (.region false [⟨some 22, .mv (.t 0), none, false⟩,
  ⟨some 23, .mv (.t 0), none, false⟩,
  ⟨some 24, .nilck (.t 23), none, false⟩,
  ⟨some 25, .faddr 8 (.t 24), none, false⟩,
  ⟨some 26, .load none (.t 25), none, false⟩,
  ⟨some 27, .mv (.t 1), none, false⟩,
  ⟨some 28, .append 1 1 [(.int .u8 0)] [] (.t 26) (.t 27), none, false⟩,
  ⟨some 29, .nilck (.t 22), none, false⟩,
  ⟨some 30, .faddr 8 (.t 29), none, false⟩,
  ⟨none, .store 1 [] (.t 30) (.t 28), none, false⟩])
def s_digest_Hash_Write_p3 : SCode := (.region false [⟨some 31, .mv (.t 0), none, false⟩,
  ⟨some 32, .nilck (.t 31), none, false⟩,
  ⟨some 33, .faddr 8 (.t 32), none, false⟩,
  ⟨some 34, .load none (.t 33), none, false⟩,
  ⟨some 35, .len (.t 34), none, false⟩,
  ⟨some 36, .bin .geq (.t 35) (.v (.int .i64 64)), none, false⟩])
def s_digest_Hash_Write_p4 : SCode := (.region true [⟨some 37, .mv (.t 0), none, true⟩,
  ⟨some 38, .nilck (.t 37), none, true⟩,
  ⟨some 39, .faddr 0 (.t 38), none, true⟩,
  ⟨some 40, .mv (.t 0), none, false⟩,
  ⟨some 41, .nilck (.t 40), none, false⟩,
  ⟨some 42, .faddr 8 (.t 41), none, false⟩,
  ⟨some 43, .load none (.t 42), none, false⟩,
  ⟨some 44, .slice 1 (.t 43) none (some (.v (.int .i64 64))) none, none, false⟩,
  ⟨some 45, .call f_digest_words_block [(.t 39), (.t 44)], none, false⟩])
def s_digest_Hash_Write_p5 : SCode := (.region false [⟨some 46, .mv (.t 0), none, false⟩,
  ⟨some 47, .mv (.t 0), none, false⟩,
  ⟨some 48, .nilck (.t 47), none, false⟩,
  ⟨some 49, .faddr 8 (.t 48), none, false⟩,
  ⟨some 50, .load none (.t 49), none, false⟩,
  ⟨some 51, .slice 1 (.t 50) (some (.v (.int .i64 64))) none none, none, false⟩,
  ⟨some 52, .nilck (.t 46), none, false⟩,
  ⟨some 53, .faddr 8 (.t 52), none, false⟩,
  ⟨none, .store 1 [] (.t 53) (.t 51), none, false⟩])
def s_digest_Hash_Write_p6 : SCode := (.seq (.kp [0] (.seq (.kp [0, 36] s_digest_Hash_Write_p3) (.cond (.t 36) .skip (.exit 0)))) (.block 1 (.seq (.kp [0] s_digest_Hash_Write_p4) s_digest_Hash_Write_p5)))
def s_digest_Hash_Write : SFn := ⟨2, [], (.seq (.kp [0, 1] (.seq (.kp [0, 1, 12] s_digest_Hash_Write_p0) (.cond (.t 12) .ret .skip))) (.seq (.kp [0, 1] s_digest_Hash_Write_p1) (.seq (.kp [0] s_digest_Hash_Write_p2) (.block 0 (.loop (some [0]) s_digest_Hash_Write_p6)))))⟩
def s_digest_begun_p0 : SCode := (.region false [⟨some 1, .build [(.int .u32 0), (.int .u32 0), (.int .u32 0), (.int .u32 0), (.int .u32 0), (.int .u32 0), (.int .u32 0), (.int .u32 0)] [(0, 1, (.v (.int .u32 1779033703))), (1, 1, (.v (.int .u32 3144134277))), (2, 1, (.v (.int .u32 1013904242))), (3, 1, (.v (.int .u32 2773480762))), (4, 1, (.v (.int .u32 1359893119))), (5, 1, (.v (.int .u32 2600822924))), (6, 1, (.v (.int .u32 528734635))), (7, 1, (.v (.int .u32 1541459225)))], none, false⟩,
  ⟨none, .store 8 [] (.t 0) (.t 1), none, false⟩])
def s_digest_begun_p1 : SCode := (.seq (.region false [⟨some 0, .alloc true [(.int .u32 0), (.int .u32 0), (.int .u32 0), (.int .u32 0), (.int .u32 0), (.int .u32 0), (.int .u32 0), (.int .u32 0)], none, false⟩]) (.seq s_digest_begun_p0 .ret))
def s_digest_begun : SFn := ⟨0, [.cell 0 (some 8)], s_digest_begun_p1⟩
def s_digest_New_p0 : SCode := (.region false [⟨some 1, .call f_digest_begun [], none, false⟩,
  ⟨some 2, .build [(.int .u32 0), (.int .u32 0), (.int .u32 0), (.int .u32 0), (.int .u32 0), (.int .u32 0), (.int .u32 0), (.int .u32 0), .nils, (.int .i64 0), (.bool false)] [(0, 8, (.t 1)), (10, 1, (.v (.bool true)))], none, false⟩,
  ⟨some 3, .box false 11 (.t 2), none, false⟩,
  ⟨some 0, .mv (.t 3), none, false⟩])
def s_digest_New : SFn := ⟨0, [.t 0], (.seq (.region false [⟨some 0, .mv (.v .nilp), none, false⟩]) (.seq s_digest_New_p0 .ret))⟩
def s_digest_Of_p0 : SCode := (.region false [⟨some 2, .alloc true [(.int .u8 0), (.int .u8 0), (.int .u8 0), (.int .u8 0), (.int .u8 0), (.int .u8 0), (.int .u8 0), (.int .u8 0), (.int .u8 0), (.int .u8 0), (.int .u8 0), (.int .u8 0), (.int .u8 0), (.int .u8 0), (.int .u8 0), (.int .u8 0), (.int .u8 0), (.int .u8 0), (.int .u8 0), (.int .u8 0), (.int .u8 0), (.int .u8 0), (.int .u8 0), (.int .u8 0), (.int .u8 0), (.int .u8 0), (.int .u8 0), (.int .u8 0), (.int .u8 0), (.int .u8 0), (.int .u8 0), (.int .u8 0)], none, false⟩])
def s_digest_Of_p1 : SCode := (.seq (.region false [⟨some 5, .mv (.t 3), none, false⟩,
  ⟨some 6, .mv (.t 0), none, false⟩,
  ⟨some 7, .call f_digest_Hash_Write [(.t 5), (.t 6)], none, false⟩]) (.seq (.region false [⟨some 8, .mv (.t 3), none, false⟩,
  ⟨some 9, .call f_digest_Hash_Sum [(.t 8)], none, false⟩,
  ⟨none, .store 32 [] (.t 2) (.t 9), none, false⟩]) .ret))
def s_digest_Of : SFn := ⟨1, [.cell 2 (some 32)], (.seq s_digest_Of_p0 (.seq (.region false [⟨some 4, .call f_digest_New [], none, false⟩,
  ⟨some 3, .mv (.t 4), none, false⟩]) s_digest_Of_p1))⟩
def s_digest_Text_p0 : SCode := (.region true [⟨some 10, .mv (.t 3), none, false⟩,
  ⟨some 11, .mv (.t 5), none, false⟩,
  ⟨some 12, .bin .shr (.t 11) (.v (.int .u64 4)), none, false⟩,
  ⟨some 13, .idxS (.v (.str ⟨#[48, 49, 50, 51, 52, 53, 54, 55, 56, 57, 97, 98, 99, 100, 101, 102]⟩)) (.t 12), none, false⟩,
  ⟨some 14, .mv (.t 5), none, false⟩,
  ⟨some 15, .bin .and (.t 14) (.v (.int .u8 15)), none, false⟩,
  ⟨some 16, .idxS (.v (.str ⟨#[48, 49, 50, 51, 52, 53, 54, 55, 56, 57, 97, 98, 99, 100, 101, 102]⟩)) (.t 15), none, false⟩,
  ⟨some 17, .bslice [(.int .u8 0), (.int .u8 0)] 2 1 [(0, 1, (.t 13)), (1, 1, (.t 16))], none, false⟩,
  ⟨some 18, .append 1 1 [(.int .u8 0)] [] (.t 10) (.t 17), none, false⟩,
  ⟨some 3, .mv (.t 18), none, false⟩])
def s_digest_Text_p1 : SCode := (.seq (.kp [3, 6, 7] (.block 1 (.seq (.region false [⟨some 9, .idxA 32 1 false (.t 6) (.t 7), none, false⟩,
  ⟨some 5, .mv (.t 9), none, false⟩]) s_digest_Text_p0))) (.region false [⟨some 19, .bin .add (.t 7) (.v (.int .i64 1)), none, false⟩,
  ⟨some 7, .mv (.t 19), none, false⟩]))
def s_digest_Text_p2 : SCode := (.seq (.region false [⟨some 8, .bin .lss (.t 7) (.v (.int .i64 32)), none, false⟩]) (.seq (.kp [3, 6, 7] (.cond (.t 8) .skip (.exit 0))) s_digest_Text_p1))
def s_digest_Text_p3 : SCode := (.kp [3] (.seq (.kp [3, 6, 7] (.region false [⟨some 6, .load (some 32) (.t 1), none, false⟩,
  ⟨some 7, .mv (.v (.int .i64 0)), none, false⟩])) (.block 0 (.loop (some [3, 6, 7]) s_digest_Text_p2))))
def s_digest_Text_p4 : SCode := (.seq (.region false [⟨some 3, .mv (.v .nils), none, false⟩]) (.seq s_digest_Text_p3 (.seq (.region false [⟨some 20, .mv (.t 3), none, false⟩,
  ⟨some 21, .b2s (.t 20), none, false⟩,
  ⟨some 2, .mv (.t 21), none, false⟩]) .ret)))
def s_digest_Text : SFn := ⟨1, [.t 2], (.seq (.region false [⟨some 1, .box true 32 (.t 0), none, false⟩,
  ⟨some 2, .mv (.v (.str ⟨#[]⟩)), none, false⟩]) s_digest_Text_p4)⟩
def s_law27_awake_p0 : SCode := (.region false [⟨some 1, .bslice [(.int .u8 0), (.int .u8 0), (.int .u8 0)] 3 1 [(0, 1, (.v (.int .u8 97))), (1, 1, (.v (.int .u8 98))), (2, 1, (.v (.int .u8 99)))], none, false⟩,
  ⟨some 2, .fz (.t 1), none, false⟩,
  ⟨some 3, .call f_digest_Of [(.t 2)], none, false⟩,
  ⟨some 4, .call f_digest_Text [(.t 3)], none, false⟩,
  ⟨some 5, .bin .eql (.t 4) (.v (.str ⟨#[98, 97, 55, 56, 49, 54, 98, 102, 56, 102, 48, 49, 99, 102, 101, 97, 52, 49, 52, 49, 52, 48, 100, 101, 53, 100, 97, 101, 50, 50, 50, 51, 98, 48, 48, 51, 54, 49, 97, 51, 57, 54, 49, 55, 55, 97, 57, 99, 98, 52, 49, 48, 102, 102, 54, 49, 102, 50, 48, 48, 49, 53, 97, 100]⟩)), none, false⟩,
  ⟨some 0, .mv (.t 5), none, false⟩])
def s_law27_awake : SFn := ⟨0, [.t 0], (.seq (.region false [⟨some 0, .mv (.v (.bool false)), none, false⟩]) (.seq (.kp [0] s_law27_awake_p0) .ret))⟩
def s_law27_DigestPieces_p0 : SCode := (.seq (.region false [⟨some 10, .mv (.t 3), none, false⟩,
  ⟨some 11, .eq false false [.ptr] (.t 10) (.v .nilp), none, false⟩]) (.cond (.t 11) (.seq (.region false [⟨some 2, .mv (.v (.bool false)), none, false⟩]) .ret) .skip))
def s_law27_DigestPieces_p1 : SCode := (.region false [⟨some 12, .mv (.t 5), none, false⟩,
  ⟨some 13, .mv (.t 0), none, false⟩,
  ⟨some 14, .len (.t 13), none, false⟩,
  ⟨some 15, .bin .lss (.t 12) (.t 14), none, false⟩,
  ⟨some 16, .mv (.t 15), none, false⟩,
  ⟨some 17, .mv (.t 5), (some (16, true)), false⟩,
  ⟨some 18, .bin .lss (.t 17) (.v (.int .i64 300)), (some (16, true)), false⟩,
  ⟨some 19, .pick (.t 16) (.t 18) (.v (.bool false)), none, false⟩])
def s_law27_DigestPieces_p2 : SCode := (.region false [⟨some 22, .mv (.t 0), none, false⟩,
  ⟨some 23, .mv (.t 5), none, false⟩,
  ⟨some 24, .iaddr 1 (.t 22) (.t 23), none, false⟩,
  ⟨some 25, .load none (.t 24), none, false⟩,
  ⟨some 26, .len (.t 25), none, false⟩,
  ⟨some 27, .mv (.t 4), none, false⟩,
  ⟨some 28, .len (.t 27), none, false⟩,
  ⟨some 29, .bin .sub (.v (.int .i64 4096)) (.t 28), none, false⟩,
  ⟨some 30, .bin .gtr (.t 26) (.t 29), none, false⟩])
def s_law27_DigestPieces_p3 : SCode := (.region false [⟨some 31, .bslice [] 0 1 [], none, false⟩,
  ⟨some 32, .mv (.t 0), none, false⟩,
  ⟨some 33, .mv (.t 5), none, false⟩,
  ⟨some 34, .iaddr 1 (.t 32) (.t 33), none, false⟩,
  ⟨some 35, .load none (.t 34), none, false⟩,
  ⟨some 36, .append 1 1 [(.int .u8 0)] [] (.t 31) (.t 35), none, false⟩,
  ⟨some 6, .mv (.t 36), none, false⟩])
def s_law27_DigestPieces_p4 : SCode := (.region false [⟨some 40, .mv (.t 7), none, false⟩,
  ⟨some 41, .mv (.t 6), none, false⟩,
  ⟨some 42, .len (.t 41), none, false⟩,
  ⟨some 43, .bin .lss (.t 40) (.t 42), none, false⟩])
def s_law27_DigestPieces_p5 : SCode := (.region false [⟨some 46, .mv (.t 6), none, false⟩,
  ⟨some 47, .mv (.t 7), none, false⟩,
  ⟨some 48, .iaddr 1 (.t 46) (.t 47), none, false⟩,
  ⟨some 49, .load none (.t 48), none, false⟩,
  ⟨some 50, .bin .add (.t 49) (.v (.int .u8 1)), none, false⟩,
  ⟨some 51, .iaddr 1 (.t 46) (.t 47), none, false⟩,
  ⟨none, .store 1 [] (.t 51) (.t 50), none, false⟩])
def s_law27_DigestPieces_p6 : SCode := (.seq (.kp [0, 3, 4, 5, 6, 7] (.block 3 s_law27_DigestPieces_p5)) (.region false [⟨some 44, .mv (.t 7), none, false⟩,
  ⟨some 45, .bin .add (.t 44) (.v (.int .i64 1)), none, false⟩,
  ⟨some 7, .mv (.t 45), none, false⟩]))
def s_law27_DigestPieces_p7 : SCode := (.seq (.kp [0, 3, 4, 5, 6, 7] (.seq s_law27_DigestPieces_p4 (.cond (.t 43) .skip (.exit 2)))) s_law27_DigestPieces_p6)
def s_law27_DigestPieces_p8 : SCode := (.region false [⟨some 52, .mv (.t 4), none, false⟩,
  ⟨some 53, .mv (.t 0), none, false⟩,
  ⟨some 54, .mv (.t 5), none, false⟩,
  ⟨some 55, .iaddr 1 (.t 53) (.t 54), none, false⟩,
  ⟨some 56, .load none (.t 55), none, false⟩,
  ⟨some 57, .append 1 1 [(.int .u8 0)] [] (.t 52) (.t 56), none, false⟩,
  ⟨some 4, .mv (.t 57), none, false⟩])
def s_law27_DigestPieces_p9 : SCode := (.region false [⟨some 58, .mv (.t 3), none, false⟩,
  ⟨some 59, .call f_digest_Hash_Len [(.t 58)], none, false⟩,
  ⟨some 60, .mv (.t 4), none, false⟩,
  ⟨some 61, .len (.t 60), none, false⟩,
  ⟨some 62, .bin .neq (.t 59) (.t 61), none, false⟩,
  ⟨some 63, .mv (.t 62), none, false⟩,
  ⟨some 64, .mv (.t 5), (some (63, false)), false⟩,
  ⟨some 65, .bin .rem (.t 64) (.v (.int .i64 3)), (some (63, false)), false⟩,
  ⟨some 66, .bin .eql (.t 65) (.v (.int .i64 0)), (some (63, false)), false⟩,
  ⟨some 67, .mv (.t 66), (some (63, false)), false⟩,
  ⟨some 68, .mv (.t 3), (some (67, true)), false⟩,
  ⟨some 69, .call f_digest_Hash_Sum [(.t 68)], (some (67, true)), false⟩,
  ⟨some 70, .mv (.t 4), (some (67, true)), false⟩,
  ⟨some 71, .call f_digest_Of [(.t 70)], (some (67, true)), false⟩,
  ⟨some 72, .eq true true [.int, .int, .int, .int, .int, .int, .int, .int, .int, .int, .int, .int, .int, .int, .int, .int, .int, .int, .int, .int, .int, .int, .int, .int, .int, .int, .int, .int, .int, .int, .int, .int] (.t 69) (.t 71), (some (67, true)), false⟩,
  ⟨some 73, .pick (.t 67) (.t 72) (.v (.bool false)), (some (63, false)), false⟩,
  ⟨some 74, .pick (.t 63) (.v (.bool true)) (.t 73), none, false⟩])
def s_law27_DigestPieces_p10 : SCode := (.seq (.kp [0, 3, 4, 5] (.seq (.kp [0, 3, 4, 5, 6, 7] (.region false [⟨some 7, .mv (.v (.int .i64 0)), none, false⟩])) (.block 2 (.loop (some [0, 3, 4, 5, 6, 7]) s_law27_DigestPieces_p7)))) (.seq (.kp [0, 3, 4, 5] s_law27_DigestPieces_p8) (.seq (.kp [0, 3, 4, 5, 74] s_law27_DigestPieces_p9) (.cond (.t 74) (.seq (.region false [⟨some 2, .mv (.v (.bool false)), none, false⟩]) .ret) .skip))))
def s_law27_DigestPieces_p11 : SCode := (.seq (.kp [0, 3, 4, 5, 6] s_law27_DigestPieces_p3) (.seq (.region false [⟨some 37, .mv (.t 3), none, false⟩,
  ⟨some 38, .mv (.t 6), none, false⟩,
  ⟨some 39, .call f_digest_Hash_Write [(.t 37), (.t 38)], none, false⟩]) s_law27_DigestPieces_p10))
def s_law27_DigestPieces_p12 : SCode := (.seq (.kp [0, 3, 4, 5] (.block 1 (.seq (.kp [0, 3, 4, 5] (.seq (.kp [0, 3, 4, 5, 30] s_law27_DigestPieces_p2) (.cond (.t 30) (.exit 0) .skip))) s_law27_DigestPieces_p11))) (.region false [⟨some 20, .mv (.t 5), none, false⟩,
  ⟨some 21, .bin .add (.t 20) (.v (.int .i64 1)), none, false⟩,
  ⟨some 5, .mv (.t 21), none, false⟩]))
def s_law27_DigestPieces_p13 : SCode := (.seq (.kp [0, 3, 4, 5] (.seq (.kp [0, 3, 4, 5, 19] s_law27_DigestPieces_p1) (.cond (.t 19) .skip (.exit 0)))) s_law27_DigestPieces_p12)
def s_law27_DigestPieces_p14 : SCode := (.region false [⟨some 75, .mv (.t 3), none, false⟩,
  ⟨some 76, .call f_digest_Hash_Sum [(.t 75)], none, false⟩,
  ⟨some 77, .mv (.t 4), none, false⟩,
  ⟨some 78, .call f_digest_Of [(.t 77)], none, false⟩,
  ⟨some 79, .eq false true [.int, .int, .int, .int, .int, .int, .int, .int, .int, .int, .int, .int, .int, .int, .int, .int, .int, .int, .int, .int, .int, .int, .int, .int, .int, .int, .int, .int, .int, .int, .int, .int] (.t 76) (.t 78), none, false⟩,
  ⟨some 80, .mv (.t 79), none, false⟩,
  ⟨some 81, .mv (.t 3), (some (80, true)), false⟩,
  ⟨some 82, .call f_digest_Hash_Sum [(.t 81)], (some (80, true)), false⟩,
  ⟨some 83, .mv (.t 4), (some (80, true)), false⟩,
  ⟨some 84, .call f_digest_Of [(.t 83)], (some (80, true)), false⟩,
  ⟨some 85, .eq false true [.int, .int, .int, .int, .int, .int, .int, .int, .int, .int, .int, .int, .int, .int, .int, .int, .int, .int, .int, .int, .int, .int, .int, .int, .int, .int, .int, .int, .int, .int, .int, .int] (.t 82) (.t 84), (some (80, true)), false⟩,
  ⟨some 86, .pick (.t 80) (.t 85) (.v (.bool false)), none, false⟩,
  ⟨some 87, .mv (.t 86), none, false⟩,
  ⟨some 88, .call f_law27_awake [], (some (87, true)), false⟩,
  ⟨some 89, .pick (.t 87) (.t 88) (.v (.bool false)), none, false⟩,
  ⟨some 2, .mv (.t 89), none, false⟩])
def s_law27_DigestPieces_p15 : SCode := (.seq (.kp [3, 4] (.seq (.kp [0, 3, 4, 5] (.region false [⟨some 5, .mv (.v (.int .i64 0)), none, false⟩])) (.block 0 (.loop (some [0, 3, 4, 5]) s_law27_DigestPieces_p13)))) (.seq (.kp [2] s_law27_DigestPieces_p14) .ret))
def s_law27_DigestPieces_p16 : SCode := (.seq (.region false [⟨some 8, .call f_digest_New [], none, false⟩,
  ⟨some 3, .mv (.t 8), none, false⟩]) (.seq (.region false [⟨some 9, .bslice [] 0 1 [], none, false⟩,
  ⟨some 4, .mv (.t 9), none, false⟩]) (.seq (.kp [0, 3, 4] s_law27_DigestPieces_p0) s_law27_DigestPieces_p15)))
def s_law27_DigestPieces : SFn := ⟨1, [.t 2], (.seq (.region false [⟨some 2, .mv (.v (.bool false)), none, false⟩]) s_law27_DigestPieces_p16)⟩
def tb : Tbl := fun f => match f with
  | 5 => some s_law27_DigestPieces
  | 11 => some s_law27_awake
  | 12 => some s_digest_Of
  | 14 => some s_digest_Text
  | 16 => some s_digest_New
  | 17 => some s_digest_Hash_Write
  | 18 => some s_digest_Hash_Len
  | 19 => some s_digest_Hash_Sum
  | 38 => some s_digest_begun
  | 39 => some s_digest_words_block
  | 59 => some s_digest_high4
  | 60 => some s_digest_right
  | 61 => some s_digest_constants
  | 78 => some s_math_bits_RotateLeft32
  | _ => none
@[go_sem] def u_digest_Hash_Len_p0 {F K fr m} := @RK_unf F K fr m _ _ s_digest_Hash_Len_p0.eq_1
@[go_sem] def u_digest_Hash_Len_p1 {F K fr m} := @RK_unf F K fr m _ _ s_digest_Hash_Len_p1.eq_1
theorem t_digest_Hash_Len : tb f_digest_Hash_Len = some s_digest_Hash_Len := rfl
@[go_sem] def u_digest_constants_p0 {F K fr m} := @RK_unf F K fr m _ _ s_digest_constants_p0.eq_1
@[go_sem] def u_digest_constants_p1 {F K fr m} := @RK_unf F K fr m _ _ s_digest_constants_p1.eq_1
theorem t_digest_constants : tb f_digest_constants = some s_digest_constants := rfl
@[go_sem] def u_digest_high4_p0 {F K fr m} := @RK_unf F K fr m _ _ s_digest_high4_p0.eq_1
theorem t_digest_high4 : tb f_digest_high4 = some s_digest_high4 := rfl
@[go_sem] def u_math_bits_RotateLeft32_p0 {F K fr m} := @RK_unf F K fr m _ _ s_math_bits_RotateLeft32_p0.eq_1
@[go_sem] def u_math_bits_RotateLeft32_p1 {F K fr m} := @RK_unf F K fr m _ _ s_math_bits_RotateLeft32_p1.eq_1
theorem t_math_bits_RotateLeft32 : tb f_math_bits_RotateLeft32 = some s_math_bits_RotateLeft32 := rfl
@[go_sem] def u_digest_right_p0 {F K fr m} := @RK_unf F K fr m _ _ s_digest_right_p0.eq_1
theorem t_digest_right : tb f_digest_right = some s_digest_right := rfl
@[go_sem] def u_digest_words_block_p0 {F K fr m} := @RK_unf F K fr m _ _ s_digest_words_block_p0.eq_1
@[go_sem] def u_digest_words_block_p1 {F K fr m} := @RK_unf F K fr m _ _ s_digest_words_block_p1.eq_1
@[go_sem] def u_digest_words_block_p2 {F K fr m} := @RK_unf F K fr m _ _ s_digest_words_block_p2.eq_1
@[go_sem] def u_digest_words_block_p3 {F K fr m} := @RK_unf F K fr m _ _ s_digest_words_block_p3.eq_1
@[go_sem] def u_digest_words_block_p4 {F K fr m} := @RK_unf F K fr m _ _ s_digest_words_block_p4.eq_1
@[go_sem] def u_digest_words_block_p5 {F K fr m} := @RK_unf F K fr m _ _ s_digest_words_block_p5.eq_1
@[go_sem] def u_digest_words_block_p6 {F K fr m} := @RK_unf F K fr m _ _ s_digest_words_block_p6.eq_1
@[go_sem] def u_digest_words_block_p7 {F K fr m} := @RK_unf F K fr m _ _ s_digest_words_block_p7.eq_1
@[go_sem] def u_digest_words_block_p8 {F K fr m} := @RK_unf F K fr m _ _ s_digest_words_block_p8.eq_1
@[go_sem] def u_digest_words_block_p9 {F K fr m} := @RK_unf F K fr m _ _ s_digest_words_block_p9.eq_1
@[go_sem] def u_digest_words_block_p10 {F K fr m} := @RK_unf F K fr m _ _ s_digest_words_block_p10.eq_1
@[go_sem] def u_digest_words_block_p11 {F K fr m} := @RK_unf F K fr m _ _ s_digest_words_block_p11.eq_1
@[go_sem] def u_digest_words_block_p12 {F K fr m} := @RK_unf F K fr m _ _ s_digest_words_block_p12.eq_1
@[go_sem] def u_digest_words_block_p13 {F K fr m} := @RK_unf F K fr m _ _ s_digest_words_block_p13.eq_1
@[go_sem] def u_digest_words_block_p14 {F K fr m} := @RK_unf F K fr m _ _ s_digest_words_block_p14.eq_1
@[go_sem] def u_digest_words_block_p15 {F K fr m} := @RK_unf F K fr m _ _ s_digest_words_block_p15.eq_1
@[go_sem] def u_digest_words_block_p16 {F K fr m} := @RK_unf F K fr m _ _ s_digest_words_block_p16.eq_1
@[go_sem] def u_digest_words_block_p17 {F K fr m} := @RK_unf F K fr m _ _ s_digest_words_block_p17.eq_1
@[go_sem] def u_digest_words_block_p18 {F K fr m} := @RK_unf F K fr m _ _ s_digest_words_block_p18.eq_1
@[go_sem] def u_digest_words_block_p19 {F K fr m} := @RK_unf F K fr m _ _ s_digest_words_block_p19.eq_1
@[go_sem] def u_digest_words_block_p20 {F K fr m} := @RK_unf F K fr m _ _ s_digest_words_block_p20.eq_1
@[go_sem] def u_digest_words_block_p21 {F K fr m} := @RK_unf F K fr m _ _ s_digest_words_block_p21.eq_1
@[go_sem] def u_digest_words_block_p22 {F K fr m} := @RK_unf F K fr m _ _ s_digest_words_block_p22.eq_1
@[go_sem] def u_digest_words_block_p23 {F K fr m} := @RK_unf F K fr m _ _ s_digest_words_block_p23.eq_1
@[go_sem] def u_digest_words_block_p24 {F K fr m} := @RK_unf F K fr m _ _ s_digest_words_block_p24.eq_1
theorem t_digest_words_block : tb f_digest_words_block = some s_digest_words_block := rfl
@[go_sem] def u_digest_Hash_Sum_p0 {F K fr m} := @RK_unf F K fr m _ _ s_digest_Hash_Sum_p0.eq_1
@[go_sem] def u_digest_Hash_Sum_p1 {F K fr m} := @RK_unf F K fr m _ _ s_digest_Hash_Sum_p1.eq_1
@[go_sem] def u_digest_Hash_Sum_p2 {F K fr m} := @RK_unf F K fr m _ _ s_digest_Hash_Sum_p2.eq_1
@[go_sem] def u_digest_Hash_Sum_p3 {F K fr m} := @RK_unf F K fr m _ _ s_digest_Hash_Sum_p3.eq_1
@[go_sem] def u_digest_Hash_Sum_p4 {F K fr m} := @RK_unf F K fr m _ _ s_digest_Hash_Sum_p4.eq_1
@[go_sem] def u_digest_Hash_Sum_p5 {F K fr m} := @RK_unf F K fr m _ _ s_digest_Hash_Sum_p5.eq_1
@[go_sem] def u_digest_Hash_Sum_p6 {F K fr m} := @RK_unf F K fr m _ _ s_digest_Hash_Sum_p6.eq_1
@[go_sem] def u_digest_Hash_Sum_p7 {F K fr m} := @RK_unf F K fr m _ _ s_digest_Hash_Sum_p7.eq_1
@[go_sem] def u_digest_Hash_Sum_p8 {F K fr m} := @RK_unf F K fr m _ _ s_digest_Hash_Sum_p8.eq_1
@[go_sem] def u_digest_Hash_Sum_p9 {F K fr m} := @RK_unf F K fr m _ _ s_digest_Hash_Sum_p9.eq_1
@[go_sem] def u_digest_Hash_Sum_p10 {F K fr m} := @RK_unf F K fr m _ _ s_digest_Hash_Sum_p10.eq_1
@[go_sem] def u_digest_Hash_Sum_p11 {F K fr m} := @RK_unf F K fr m _ _ s_digest_Hash_Sum_p11.eq_1
@[go_sem] def u_digest_Hash_Sum_p12 {F K fr m} := @RK_unf F K fr m _ _ s_digest_Hash_Sum_p12.eq_1
@[go_sem] def u_digest_Hash_Sum_p13 {F K fr m} := @RK_unf F K fr m _ _ s_digest_Hash_Sum_p13.eq_1
@[go_sem] def u_digest_Hash_Sum_p14 {F K fr m} := @RK_unf F K fr m _ _ s_digest_Hash_Sum_p14.eq_1
@[go_sem] def u_digest_Hash_Sum_p15 {F K fr m} := @RK_unf F K fr m _ _ s_digest_Hash_Sum_p15.eq_1
@[go_sem] def u_digest_Hash_Sum_p16 {F K fr m} := @RK_unf F K fr m _ _ s_digest_Hash_Sum_p16.eq_1
@[go_sem] def u_digest_Hash_Sum_p17 {F K fr m} := @RK_unf F K fr m _ _ s_digest_Hash_Sum_p17.eq_1
@[go_sem] def u_digest_Hash_Sum_p18 {F K fr m} := @RK_unf F K fr m _ _ s_digest_Hash_Sum_p18.eq_1
@[go_sem] def u_digest_Hash_Sum_p19 {F K fr m} := @RK_unf F K fr m _ _ s_digest_Hash_Sum_p19.eq_1
@[go_sem] def u_digest_Hash_Sum_p20 {F K fr m} := @RK_unf F K fr m _ _ s_digest_Hash_Sum_p20.eq_1
@[go_sem] def u_digest_Hash_Sum_p21 {F K fr m} := @RK_unf F K fr m _ _ s_digest_Hash_Sum_p21.eq_1
@[go_sem] def u_digest_Hash_Sum_p22 {F K fr m} := @RK_unf F K fr m _ _ s_digest_Hash_Sum_p22.eq_1
@[go_sem] def u_digest_Hash_Sum_p23 {F K fr m} := @RK_unf F K fr m _ _ s_digest_Hash_Sum_p23.eq_1
theorem t_digest_Hash_Sum : tb f_digest_Hash_Sum = some s_digest_Hash_Sum := rfl
@[go_sem] def u_digest_Hash_Write_p0 {F K fr m} := @RK_unf F K fr m _ _ s_digest_Hash_Write_p0.eq_1
@[go_sem] def u_digest_Hash_Write_p1 {F K fr m} := @RK_unf F K fr m _ _ s_digest_Hash_Write_p1.eq_1
@[go_sem] def u_digest_Hash_Write_p2 {F K fr m} := @RK_unf F K fr m _ _ s_digest_Hash_Write_p2.eq_1
@[go_sem] def u_digest_Hash_Write_p3 {F K fr m} := @RK_unf F K fr m _ _ s_digest_Hash_Write_p3.eq_1
@[go_sem] def u_digest_Hash_Write_p4 {F K fr m} := @RK_unf F K fr m _ _ s_digest_Hash_Write_p4.eq_1
@[go_sem] def u_digest_Hash_Write_p5 {F K fr m} := @RK_unf F K fr m _ _ s_digest_Hash_Write_p5.eq_1
@[go_sem] def u_digest_Hash_Write_p6 {F K fr m} := @RK_unf F K fr m _ _ s_digest_Hash_Write_p6.eq_1
theorem t_digest_Hash_Write : tb f_digest_Hash_Write = some s_digest_Hash_Write := rfl
@[go_sem] def u_digest_begun_p0 {F K fr m} := @RK_unf F K fr m _ _ s_digest_begun_p0.eq_1
@[go_sem] def u_digest_begun_p1 {F K fr m} := @RK_unf F K fr m _ _ s_digest_begun_p1.eq_1
theorem t_digest_begun : tb f_digest_begun = some s_digest_begun := rfl
@[go_sem] def u_digest_New_p0 {F K fr m} := @RK_unf F K fr m _ _ s_digest_New_p0.eq_1
theorem t_digest_New : tb f_digest_New = some s_digest_New := rfl
@[go_sem] def u_digest_Of_p0 {F K fr m} := @RK_unf F K fr m _ _ s_digest_Of_p0.eq_1
@[go_sem] def u_digest_Of_p1 {F K fr m} := @RK_unf F K fr m _ _ s_digest_Of_p1.eq_1
theorem t_digest_Of : tb f_digest_Of = some s_digest_Of := rfl
@[go_sem] def u_digest_Text_p0 {F K fr m} := @RK_unf F K fr m _ _ s_digest_Text_p0.eq_1
@[go_sem] def u_digest_Text_p1 {F K fr m} := @RK_unf F K fr m _ _ s_digest_Text_p1.eq_1
@[go_sem] def u_digest_Text_p2 {F K fr m} := @RK_unf F K fr m _ _ s_digest_Text_p2.eq_1
@[go_sem] def u_digest_Text_p3 {F K fr m} := @RK_unf F K fr m _ _ s_digest_Text_p3.eq_1
@[go_sem] def u_digest_Text_p4 {F K fr m} := @RK_unf F K fr m _ _ s_digest_Text_p4.eq_1
theorem t_digest_Text : tb f_digest_Text = some s_digest_Text := rfl
@[go_sem] def u_law27_awake_p0 {F K fr m} := @RK_unf F K fr m _ _ s_law27_awake_p0.eq_1
theorem t_law27_awake : tb f_law27_awake = some s_law27_awake := rfl
@[go_sem] def u_law27_DigestPieces_p0 {F K fr m} := @RK_unf F K fr m _ _ s_law27_DigestPieces_p0.eq_1
@[go_sem] def u_law27_DigestPieces_p1 {F K fr m} := @RK_unf F K fr m _ _ s_law27_DigestPieces_p1.eq_1
@[go_sem] def u_law27_DigestPieces_p2 {F K fr m} := @RK_unf F K fr m _ _ s_law27_DigestPieces_p2.eq_1
@[go_sem] def u_law27_DigestPieces_p3 {F K fr m} := @RK_unf F K fr m _ _ s_law27_DigestPieces_p3.eq_1
@[go_sem] def u_law27_DigestPieces_p4 {F K fr m} := @RK_unf F K fr m _ _ s_law27_DigestPieces_p4.eq_1
@[go_sem] def u_law27_DigestPieces_p5 {F K fr m} := @RK_unf F K fr m _ _ s_law27_DigestPieces_p5.eq_1
@[go_sem] def u_law27_DigestPieces_p6 {F K fr m} := @RK_unf F K fr m _ _ s_law27_DigestPieces_p6.eq_1
@[go_sem] def u_law27_DigestPieces_p7 {F K fr m} := @RK_unf F K fr m _ _ s_law27_DigestPieces_p7.eq_1
@[go_sem] def u_law27_DigestPieces_p8 {F K fr m} := @RK_unf F K fr m _ _ s_law27_DigestPieces_p8.eq_1
@[go_sem] def u_law27_DigestPieces_p9 {F K fr m} := @RK_unf F K fr m _ _ s_law27_DigestPieces_p9.eq_1
@[go_sem] def u_law27_DigestPieces_p10 {F K fr m} := @RK_unf F K fr m _ _ s_law27_DigestPieces_p10.eq_1
@[go_sem] def u_law27_DigestPieces_p11 {F K fr m} := @RK_unf F K fr m _ _ s_law27_DigestPieces_p11.eq_1
@[go_sem] def u_law27_DigestPieces_p12 {F K fr m} := @RK_unf F K fr m _ _ s_law27_DigestPieces_p12.eq_1
@[go_sem] def u_law27_DigestPieces_p13 {F K fr m} := @RK_unf F K fr m _ _ s_law27_DigestPieces_p13.eq_1
@[go_sem] def u_law27_DigestPieces_p14 {F K fr m} := @RK_unf F K fr m _ _ s_law27_DigestPieces_p14.eq_1
@[go_sem] def u_law27_DigestPieces_p15 {F K fr m} := @RK_unf F K fr m _ _ s_law27_DigestPieces_p15.eq_1
@[go_sem] def u_law27_DigestPieces_p16 {F K fr m} := @RK_unf F K fr m _ _ s_law27_DigestPieces_p16.eq_1
theorem t_law27_DigestPieces : tb f_law27_DigestPieces = some s_law27_DigestPieces := rfl
end Go.Sh.T
