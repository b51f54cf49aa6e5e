import Derived.Test.YtagkpelolebnoaaShH
set_option linter.all false
set_option linter.unusedVariables false
set_option linter.unusedSimpArgs false
set_option autoImplicit false
set_option linter.all false
set_option maxRecDepth 4096
namespace Go.Sh.T
open Go.Sh
def f_law27_DigestOf : FuncId := 3
def f_law27_awake : FuncId := 11
def f_digest_Of : FuncId := 12
def f_ref27_Of : FuncId := 13
def f_digest_Text : FuncId := 14
def f_digest_New : FuncId := 16
def f_digest_Hash_Write : FuncId := 17
def f_digest_Hash_Sum : FuncId := 19
def f_ref27_roots : FuncId := 35
def f_ref27_padded : FuncId := 36
def f_ref27_block : FuncId := 37
def f_digest_begun : FuncId := 38
def f_digest_words_block : FuncId := 39
def f_ref27_root : FuncId := 57
def f_ref27_turn : FuncId := 58
def f_digest_high4 : FuncId := 59
def f_digest_right : FuncId := 60
def f_digest_constants : FuncId := 61
def f_ref27_above : FuncId := 77
def f_math_bits_RotateLeft32 : FuncId := 78
def f_ref27_digits : FuncId := 82
def f_ref27_product : FuncId := 83
def f_ref27_less : FuncId := 84
def s_digest_constants_p0 : SCode := (.region false [⟨some 0, .alloc true [(.int .u32 0), (.int .u32 0), (.int .u32 0), (.int .u32 0), (.int .u32 0), (.int .u32 0), (.int .u32 0), (.int .u32 0), (.int .u32 0), (.int .u32 0), (.int .u32 0), (.int .u32 0), (.int .u32 0), (.int .u32 0), (.int .u32 0), (.int .u32 0), (.int .u32 0), (.int .u32 0), (.int .u32 0), (.int .u32 0), (.int .u32 0), (.int .u32 0), (.int .u32 0), (.int .u32 0), (.int .u32 0), (.int .u32 0), (.int .u32 0), (.int .u32 0), (.int .u32 0), (.int .u32 0), (.int .u32 0), (.int .u32 0), (.int .u32 0), (.int .u32 0), (.int .u32 0), (.int .u32 0), (.int .u32 0), (.int .u32 0), (.int .u32 0), (.int .u32 0), (.int .u32 0), (.int .u32 0), (.int .u32 0), (.int .u32 0), (.int .u32 0), (.int .u32 0), (.int .u32 0), (.int .u32 0), (.int .u32 0), (.int .u32 0), (.int .u32 0), (.int .u32 0), (.int .u32 0), (.int .u32 0), (.int .u32 0), (.int .u32 0), (.int .u32 0), (.int .u32 0), (.int .u32 0), (.int .u32 0), (.int .u32 0), (.int .u32 0), (.int .u32 0), (.int .u32 0)], none, false⟩])
def s_digest_constants_p1 : SCode := (.region false [⟨some 1, .build [(.int .u32 0), (.int .u32 0), (.int .u32 0), (.int .u32 0), (.int .u32 0), (.int .u32 0), (.int .u32 0), (.int .u32 0), (.int .u32 0), (.int .u32 0), (.int .u32 0), (.int .u32 0), (.int .u32 0), (.int .u32 0), (.int .u32 0), (.int .u32 0), (.int .u32 0), (.int .u32 0), (.int .u32 0), (.int .u32 0), (.int .u32 0), (.int .u32 0), (.int .u32 0), (.int .u32 0), (.int .u32 0), (.int .u32 0), (.int .u32 0), (.int .u32 0), (.int .u32 0), (.int .u32 0), (.int .u32 0), (.int .u32 0), (.int .u32 0), (.int .u32 0), (.int .u32 0), (.int .u32 0), (.int .u32 0), (.int .u32 0), (.int .u32 0), (.int .u32 0), (.int .u32 0), (.int .u32 0), (.int .u32 0), (.int .u32 0), (.int .u32 0), (.int .u32 0), (.int .u32 0), (.int .u32 0), (.int .u32 0), (.int .u32 0), (.int .u32 0), (.int .u32 0), (.int .u32 0), (.int .u32 0), (.int .u32 0), (.int .u32 0), (.int .u32 0), (.int .u32 0), (.int .u32 0), (.int .u32 0), (.int .u32 0), (.int .u32 0), (.int .u32 0), (.int .u32 0)] [(0, 1, (.v (.int .u32 1116352408))), (1, 1, (.v (.int .u32 1899447441))), (2, 1, (.v (.int .u32 3049323471))), (3, 1, (.v (.int .u32 3921009573))), (4, 1, (.v (.int .u32 961987163))), (5, 1, (.v (.int .u32 1508970993))), (6, 1, (.v (.int .u32 2453635748))), (7, 1, (.v (.int .u32 2870763221))), (8, 1, (.v (.int .u32 3624381080))), (9, 1, (.v (.int .u32 310598401))), (10, 1, (.v (.int .u32 607225278))), (11, 1, (.v (.int .u32 1426881987))), (12, 1, (.v (.int .u32 1925078388))), (13, 1, (.v (.int .u32 2162078206))), (14, 1, (.v (.int .u32 2614888103))), (15, 1, (.v (.int .u32 3248222580))), (16, 1, (.v (.int .u32 3835390401))), (17, 1, (.v (.int .u32 4022224774))), (18, 1, (.v (.int .u32 264347078))), (19, 1, (.v (.int .u32 604807628))), (20, 1, (.v (.int .u32 770255983))), (21, 1, (.v (.int .u32 1249150122))), (22, 1, (.v (.int .u32 1555081692))), (23, 1, (.v (.int .u32 1996064986))), (24, 1, (.v (.int .u32 2554220882))), (25, 1, (.v (.int .u32 2821834349))), (26, 1, (.v (.int .u32 2952996808))), (27, 1, (.v (.int .u32 3210313671))), (28, 1, (.v (.int .u32 3336571891))), (29, 1, (.v (.int .u32 3584528711))), (30, 1, (.v (.int .u32 113926993))), (31, 1, (.v (.int .u32 338241895))), (32, 1, (.v (.int .u32 666307205))), (33, 1, (.v (.int .u32 773529912))), (34, 1, (.v (.int .u32 1294757372))), (35, 1, (.v (.int .u32 1396182291))), (36, 1, (.v (.int .u32 1695183700))), (37, 1, (.v (.int .u32 1986661051))), (38, 1, (.v (.int .u32 2177026350))), (39, 1, (.v (.int .u32 2456956037))), (40, 1, (.v (.int .u32 2730485921))), (41, 1, (.v (.int .u32 2820302411))), (42, 1, (.v (.int .u32 3259730800))), (43, 1, (.v (.int .u32 3345764771))), (44, 1, (.v (.int .u32 3516065817))), (45, 1, (.v (.int .u32 3600352804))), (46, 1, (.v (.int .u32 4094571909))), (47, 1, (.v (.int .u32 275423344))), (48, 1, (.v (.int .u32 430227734))), (49, 1, (.v (.int .u32 506948616))), (50, 1, (.v (.int .u32 659060556))), (51, 1, (.v (.int .u32 883997877))), (52, 1, (.v (.int .u32 958139571))), (53, 1, (.v (.int .u32 1322822218))), (54, 1, (.v (.int .u32 1537002063))), (55, 1, (.v (.int .u32 1747873779))), (56, 1, (.v (.int .u32 1955562222))), (57, 1, (.v (.int .u32 2024104815))), (58, 1, (.v (.int .u32 2227730452))), (59, 1, (.v (.int .u32 2361852424))), (60, 1, (.v (.int .u32 2428436474))), (61, 1, (.v (.int .u32 2756734187))), (62, 1, (.v (.int .u32 3204031479))), (63, 1, (.v (.int .u32 3329325298)))], none, false⟩,
  ⟨none, .store 64 [] (.t 0) (.t 1), none, false⟩])
def s_digest_constants : SFn := ⟨0, [.cell 0 (some 64)], (.seq s_digest_constants_p0 (.seq s_digest_constants_p1 .ret))⟩
def s_digest_high4_p0 : SCode := (.region true [⟨some 3, .mv (.t 0), none, true⟩,
  ⟨some 4, .iaddr 1 (.t 3) (.v (.int .i64 0)), none, true⟩,
  ⟨some 5, .load none (.t 4), none, true⟩,
  ⟨some 6, .conv .u32 (.t 5), none, true⟩,
  ⟨some 7, .bin .shl (.t 6) (.v (.int .u64 24)), none, true⟩,
  ⟨some 8, .mv (.t 0), none, true⟩,
  ⟨some 9, .iaddr 1 (.t 8) (.v (.int .i64 1)), none, true⟩,
  ⟨some 10, .load none (.t 9), none, true⟩,
  ⟨some 11, .conv .u32 (.t 10), none, true⟩,
  ⟨some 12, .bin .shl (.t 11) (.v (.int .u64 16)), none, true⟩,
  ⟨some 13, .bin .or (.t 7) (.t 12), none, true⟩,
  ⟨some 14, .mv (.t 0), none, true⟩,
  ⟨some 15, .iaddr 1 (.t 14) (.v (.int .i64 2)), none, true⟩,
  ⟨some 16, .load none (.t 15), none, true⟩,
  ⟨some 17, .conv .u32 (.t 16), none, true⟩,
  ⟨some 18, .bin .shl (.t 17) (.v (.int .u64 8)), none, true⟩,
  ⟨some 19, .bin .or (.t 13) (.t 18), none, true⟩,
  ⟨some 20, .mv (.t 0), none, true⟩,
  ⟨some 21, .iaddr 1 (.t 20) (.v (.int .i64 3)), none, true⟩,
  ⟨some 22, .load none (.t 21), none, true⟩,
  ⟨some 23, .conv .u32 (.t 22), none, true⟩,
  ⟨some 24, .bin .or (.t 19) (.t 23), none, false⟩,
  ⟨some 2, .mv (.t 24), none, false⟩])
def s_digest_high4 : SFn := ⟨1, [.t 2], (.seq (.region false [⟨some 2, .mv (.v (.int .u32 0)), none, false⟩]) (.seq (.kp [2] s_digest_high4_p0) .ret))⟩
def s_math_bits_RotateLeft32_p0 : SCode := (.region false [⟨some 6, .mv (.t 1), none, false⟩,
  ⟨some 7, .conv .u64 (.t 6), none, false⟩,
  ⟨some 8, .bin .and (.t 7) (.v (.int .u64 31)), none, false⟩,
  ⟨some 5, .mv (.t 8), none, false⟩])
def s_math_bits_RotateLeft32_p1 : SCode := (.region false [⟨some 9, .mv (.t 0), none, false⟩,
  ⟨some 10, .mv (.t 5), none, false⟩,
  ⟨some 11, .bin .shl (.t 9) (.t 10), none, false⟩,
  ⟨some 12, .mv (.t 0), none, false⟩,
  ⟨some 13, .mv (.t 5), none, false⟩,
  ⟨some 14, .bin .sub (.v (.int .u64 32)) (.t 13), none, false⟩,
  ⟨some 15, .bin .shr (.t 12) (.t 14), none, false⟩,
  ⟨some 16, .bin .or (.t 11) (.t 15), none, false⟩,
  ⟨some 4, .mv (.t 16), none, false⟩])
def s_math_bits_RotateLeft32 : SFn := ⟨2, [.t 4], (.seq (.region false [⟨some 4, .mv (.v (.int .u32 0)), none, false⟩]) (.seq s_math_bits_RotateLeft32_p0 (.seq (.kp [4] s_math_bits_RotateLeft32_p1) .ret)))⟩
def s_digest_right_p0 : SCode := (.region false [⟨some 5, .mv (.t 0), none, false⟩,
  ⟨some 6, .mv (.t 1), none, false⟩,
  ⟨some 7, .un .neg (.t 6), none, false⟩,
  ⟨some 8, .call f_math_bits_RotateLeft32 [(.t 5), (.t 7)], none, false⟩,
  ⟨some 4, .mv (.t 8), none, false⟩])
def s_digest_right : SFn := ⟨2, [.t 4], (.seq (.region false [⟨some 4, .mv (.v (.int .u32 0)), none, false⟩]) (.seq (.kp [4] s_digest_right_p0) .ret))⟩
def s_digest_words_block_p0 : SCode := (.region false [⟨some 4, .alloc true [(.int .u32 0), (.int .u32 0), (.int .u32 0), (.int .u32 0), (.int .u32 0), (.int .u32 0), (.int .u32 0), (.int .u32 0), (.int .u32 0), (.int .u32 0), (.int .u32 0), (.int .u32 0), (.int .u32 0), (.int .u32 0), (.int .u32 0), (.int .u32 0), (.int .u32 0), (.int .u32 0), (.int .u32 0), (.int .u32 0), (.int .u32 0), (.int .u32 0), (.int .u32 0), (.int .u32 0), (.int .u32 0), (.int .u32 0), (.int .u32 0), (.int .u32 0), (.int .u32 0), (.int .u32 0), (.int .u32 0), (.int .u32 0), (.int .u32 0), (.int .u32 0), (.int .u32 0), (.int .u32 0), (.int .u32 0), (.int .u32 0), (.int .u32 0), (.int .u32 0), (.int .u32 0), (.int .u32 0), (.int .u32 0), (.int .u32 0), (.int .u32 0), (.int .u32 0), (.int .u32 0), (.int .u32 0), (.int .u32 0), (.int .u32 0), (.int .u32 0), (.int .u32 0), (.int .u32 0), (.int .u32 0), (.int .u32 0), (.int .u32 0), (.int .u32 0), (.int .u32 0), (.int .u32 0), (.int .u32 0), (.int .u32 0), (.int .u32 0), (.int .u32 0), (.int .u32 0)], none, false⟩])
def s_digest_words_block_p1 : SCode := (.region false [⟨some 20, .mv (.t 5), none, false⟩,
  ⟨some 21, .mv (.t 1), none, false⟩,
  ⟨some 22, .mv (.t 5), none, false⟩,
  ⟨some 23, .bin .mul (.v (.int .i64 4)) (.t 22), none, false⟩,
  ⟨some 24, .slice 1 (.t 21) (some (.t 23)) none none, none, false⟩,
  ⟨some 25, .call f_digest_high4 [(.t 24)], none, false⟩,
  ⟨some 26, .iaddrA 64 1 (.t 4) (.t 20), none, false⟩,
  ⟨none, .store 1 [] (.t 26) (.t 25), none, false⟩])
def s_digest_words_block_p2 : SCode := (.seq (.kp [0, 1, 4, 17] (.block 1 (.seq (.region false [⟨some 19, .mv (.t 17), none, false⟩,
  ⟨some 5, .mv (.t 19), none, false⟩]) s_digest_words_block_p1))) (.region false [⟨some 27, .bin .add (.t 17) (.v (.int .i64 1)), none, false⟩,
  ⟨some 17, .mv (.t 27), none, false⟩]))
def s_digest_words_block_p3 : SCode := (.seq (.region false [⟨some 18, .bin .lss (.t 17) (.v (.int .i64 16)), none, false⟩]) (.seq (.kp [0, 1, 4, 17] (.cond (.t 18) .skip (.exit 0))) s_digest_words_block_p2))
def s_digest_words_block_p4 : SCode := (.region true [⟨some 32, .mv (.t 6), none, true⟩,
  ⟨some 33, .bin .sub (.t 32) (.v (.int .i64 15)), none, true⟩,
  ⟨some 34, .iaddrA 64 1 (.t 4) (.t 33), none, true⟩,
  ⟨some 35, .load none (.t 34), none, true⟩,
  ⟨some 36, .mv (.t 6), none, true⟩,
  ⟨some 37, .bin .sub (.t 36) (.v (.int .i64 2)), none, true⟩,
  ⟨some 38, .iaddrA 64 1 (.t 4) (.t 37), none, true⟩,
  ⟨some 39, .load none (.t 38), none, true⟩,
  ⟨some 7, .mv (.t 35), none, true⟩,
  ⟨some 8, .mv (.t 39), none, false⟩])
def s_digest_words_block_p5 : SCode := (.region true [⟨some 40, .mv (.t 6), none, true⟩,
  ⟨some 41, .mv (.t 6), none, true⟩,
  ⟨some 42, .bin .sub (.t 41) (.v (.int .i64 16)), none, true⟩,
  ⟨some 43, .iaddrA 64 1 (.t 4) (.t 42), none, true⟩,
  ⟨some 44, .load none (.t 43), none, true⟩,
  ⟨some 45, .mv (.t 6), none, true⟩,
  ⟨some 46, .bin .sub (.t 45) (.v (.int .i64 7)), none, true⟩,
  ⟨some 47, .iaddrA 64 1 (.t 4) (.t 46), none, true⟩,
  ⟨some 48, .load none (.t 47), none, true⟩,
  ⟨some 49, .bin .add (.t 44) (.t 48), none, true⟩,
  ⟨some 50, .mv (.t 7), none, true⟩,
  ⟨some 52, .mv (.t 7), none, true⟩,
  ⟨some 55, .mv (.t 7), none, true⟩,
  ⟨some 56, .bin .shr (.t 55) (.v (.int .u64 3)), none, true⟩,
  ⟨some 59, .mv (.t 8), none, true⟩,
  ⟨some 61, .mv (.t 8), none, true⟩,
  ⟨some 64, .mv (.t 8), none, true⟩,
  ⟨some 65, .bin .shr (.t 64) (.v (.int .u64 10)), none, true⟩,
  ⟨some 51, .call f_digest_right [(.t 50), (.v (.int .i64 7))], none, true⟩,
  ⟨some 53, .call f_digest_right [(.t 52), (.v (.int .i64 18))], none, true⟩,
  ⟨some 54, .bin .xor (.t 51) (.t 53), none, true⟩,
  ⟨some 57, .bin .xor (.t 54) (.t 56), none, true⟩,
  ⟨some 58, .bin .add (.t 49) (.t 57), none, true⟩,
  ⟨some 60, .call f_digest_right [(.t 59), (.v (.int .i64 17))], none, true⟩,
  ⟨some 62, .call f_digest_right [(.t 61), (.v (.int .i64 19))], none, true⟩,
  ⟨some 63, .bin .xor (.t 60) (.t 62), none, true⟩,
  ⟨some 66, .bin .xor (.t 63) (.t 65), none, true⟩,
  ⟨some 67, .bin .add (.t 58) (.t 66), none, false⟩,
  ⟨some 68, .iaddrA 64 1 (.t 4) (.t 40), none, false⟩,
  ⟨none, .store 1 [] (.t 68) (.t 67), none, false⟩])
def s_digest_words_block_p6 : SCode := (.seq (.kp [0, 4, 6] (.block 3 (.seq (.kp [0, 4, 6, 7, 8] s_digest_words_block_p4) s_digest_words_block_p5))) (.region false [⟨some 30, .mv (.t 6), none, false⟩,
  ⟨some 31, .bin .add (.t 30) (.v (.int .i64 1)), none, false⟩,
  ⟨some 6, .mv (.t 31), none, false⟩]))
def s_digest_words_block_p7 : SCode := (.seq (.kp [0, 4, 6] (.seq (.region false [⟨some 28, .mv (.t 6), none, false⟩,
  ⟨some 29, .bin .lss (.t 28) (.v (.int .i64 64)), none, false⟩]) (.cond (.t 29) .skip (.exit 2)))) s_digest_words_block_p6)
def s_digest_words_block_p8 : SCode := (.region false [⟨some 69, .mv (.t 0), none, false⟩,
  ⟨some 70, .nilck (.t 69), none, false⟩,
  ⟨some 71, .load (some 8) (.t 70), none, false⟩,
  ⟨some 9, .alloc false [(.int .u32 0), (.int .u32 0), (.int .u32 0), (.int .u32 0), (.int .u32 0), (.int .u32 0), (.int .u32 0), (.int .u32 0)], none, false⟩,
  ⟨none, .store 8 [] (.t 9) (.t 71), none, false⟩])
def s_digest_words_block_p9 : SCode := (.region false [⟨some 75, .mv (.t 73), none, false⟩,
  ⟨some 76, .idxA 64 1 false (.t 72) (.t 73), none, false⟩,
  ⟨some 10, .mv (.t 75), none, false⟩,
  ⟨some 11, .mv (.t 76), none, false⟩])
def s_digest_words_block_p10 : SCode := (.region true [⟨some 77, .iaddrA 8 1 (.t 9) (.v (.int .i64 0)), none, true⟩,
  ⟨some 78, .load none (.t 77), none, true⟩,
  ⟨some 79, .iaddrA 8 1 (.t 9) (.v (.int .i64 4)), none, true⟩,
  ⟨some 80, .load none (.t 79), none, true⟩,
  ⟨some 12, .mv (.t 78), none, true⟩,
  ⟨some 13, .mv (.t 80), none, false⟩])
def s_digest_words_block_p11 : SCode := (.region true [⟨some 81, .iaddrA 8 1 (.t 9) (.v (.int .i64 7)), none, true⟩,
  ⟨some 82, .load none (.t 81), none, true⟩,
  ⟨some 83, .mv (.t 13), none, true⟩,
  ⟨some 85, .mv (.t 13), none, true⟩,
  ⟨some 88, .mv (.t 13), none, true⟩,
  ⟨some 92, .mv (.t 13), none, true⟩,
  ⟨some 93, .iaddrA 8 1 (.t 9) (.v (.int .i64 5)), none, true⟩,
  ⟨some 94, .load none (.t 93), none, true⟩,
  ⟨some 95, .bin .and (.t 92) (.t 94), none, true⟩,
  ⟨some 96, .mv (.t 13), none, true⟩,
  ⟨some 97, .un .xor (.t 96), none, true⟩,
  ⟨some 98, .iaddrA 8 1 (.t 9) (.v (.int .i64 6)), none, true⟩,
  ⟨some 99, .load none (.t 98), none, true⟩,
  ⟨some 100, .bin .and (.t 97) (.t 99), none, true⟩,
  ⟨some 101, .bin .xor (.t 95) (.t 100), none, true⟩,
  ⟨some 103, .mv (.t 11), none, true⟩,
  ⟨some 105, .mv (.t 10), none, true⟩,
  ⟨some 106, .iaddrA 64 1 (.t 4) (.t 105), none, true⟩,
  ⟨some 107, .load none (.t 106), none, true⟩,
  ⟨some 84, .call f_digest_right [(.t 83), (.v (.int .i64 6))], none, true⟩,
  ⟨some 86, .call f_digest_right [(.t 85), (.v (.int .i64 11))], none, true⟩,
  ⟨some 87, .bin .xor (.t 84) (.t 86), none, true⟩,
  ⟨some 89, .call f_digest_right [(.t 88), (.v (.int .i64 25))], none, true⟩,
  ⟨some 90, .bin .xor (.t 87) (.t 89), none, true⟩,
  ⟨some 91, .bin .add (.t 82) (.t 90), none, true⟩,
  ⟨some 102, .bin .add (.t 91) (.t 101), none, true⟩,
  ⟨some 104, .bin .add (.t 102) (.t 103), none, true⟩,
  ⟨some 108, .bin .add (.t 104) (.t 107), none, false⟩,
  ⟨some 14, .mv (.t 108), none, false⟩])
def s_digest_words_block_p12 : SCode := (.region true [⟨some 109, .mv (.t 12), none, true⟩,
  ⟨some 111, .mv (.t 12), none, true⟩,
  ⟨some 114, .mv (.t 12), none, true⟩,
  ⟨some 117, .mv (.t 12), none, true⟩,
  ⟨some 118, .iaddrA 8 1 (.t 9) (.v (.int .i64 1)), none, true⟩,
  ⟨some 119, .load none (.t 118), none, true⟩,
  ⟨some 120, .bin .and (.t 117) (.t 119), none, true⟩,
  ⟨some 121, .mv (.t 12), none, true⟩,
  ⟨some 122, .iaddrA 8 1 (.t 9) (.v (.int .i64 2)), none, true⟩,
  ⟨some 123, .load none (.t 122), none, true⟩,
  ⟨some 124, .bin .and (.t 121) (.t 123), none, true⟩,
  ⟨some 125, .bin .xor (.t 120) (.t 124), none, true⟩,
  ⟨some 126, .iaddrA 8 1 (.t 9) (.v (.int .i64 1)), none, true⟩,
  ⟨some 127, .load none (.t 126), none, true⟩,
  ⟨some 128, .iaddrA 8 1 (.t 9) (.v (.int .i64 2)), none, true⟩,
  ⟨some 129, .load none (.t 128), none, true⟩,
  ⟨some 130, .bin .and (.t 127) (.t 129), none, true⟩,
  ⟨some 131, .bin .xor (.t 125) (.t 130), none, true⟩,
  ⟨some 110, .call f_digest_right [(.t 109), (.v (.int .i64 2))], none, true⟩,
  ⟨some 112, .call f_digest_right [(.t 111), (.v (.int .i64 13))], none, true⟩,
  ⟨some 113, .bin .xor (.t 110) (.t 112), none, true⟩,
  ⟨some 115, .call f_digest_right [(.t 114), (.v (.int .i64 22))], none, true⟩,
  ⟨some 116, .bin .xor (.t 113) (.t 115), none, true⟩,
  ⟨some 132, .bin .add (.t 116) (.t 131), none, false⟩,
  ⟨some 15, .mv (.t 132), none, false⟩])
def s_digest_words_block_p13 : SCode := (.region true [⟨some 133, .sliceArr 8 1 (.t 9) (some (.v (.int .i64 1))) none none, none, true⟩,
  ⟨some 134, .sliceArr 8 1 (.t 9) none (some (.v (.int .i64 7))) none, none, true⟩,
  ⟨some 135, .copy 1 (.t 133) (.t 134), none, false⟩])
def s_digest_words_block_p14 : SCode := (.region false [⟨some 136, .iaddrA 8 1 (.t 9) (.v (.int .i64 4)), none, false⟩,
  ⟨some 137, .load none (.t 136), none, false⟩,
  ⟨some 138, .mv (.t 14), none, false⟩,
  ⟨some 139, .bin .add (.t 137) (.t 138), none, false⟩,
  ⟨some 140, .iaddrA 8 1 (.t 9) (.v (.int .i64 4)), none, false⟩,
  ⟨none, .store 1 [] (.t 140) (.t 139), none, false⟩])
def s_digest_words_block_p15 : SCode := (.region false [⟨some 141, .mv (.t 14), none, false⟩,
  ⟨some 142, .mv (.t 15), none, false⟩,
  ⟨some 143, .bin .add (.t 141) (.t 142), none, false⟩,
  ⟨some 144, .iaddrA 8 1 (.t 9) (.v (.int .i64 0)), none, false⟩,
  ⟨none, .store 1 [] (.t 144) (.t 143), none, false⟩])
def s_digest_words_block_p16 : SCode := (.seq (.kp [0, 4, 9, 10, 11, 12, 13, 72, 73] s_digest_words_block_p10) (.seq (.kp [0, 4, 9, 12, 14, 72, 73] s_digest_words_block_p11) (.seq (.kp [0, 4, 9, 14, 15, 72, 73] s_digest_words_block_p12) (.seq s_digest_words_block_p13 (.seq (.kp [0, 4, 9, 14, 15, 72, 73] s_digest_words_block_p14) s_digest_words_block_p15)))))
def s_digest_words_block_p17 : SCode := (.seq (.kp [0, 4, 9, 72, 73] (.block 5 (.seq s_digest_words_block_p9 s_digest_words_block_p16))) (.region false [⟨some 145, .bin .add (.t 73) (.v (.int .i64 1)), none, false⟩,
  ⟨some 73, .mv (.t 145), none, false⟩]))
def s_digest_words_block_p18 : SCode := (.seq (.region false [⟨some 74, .bin .lss (.t 73) (.v (.int .i64 64)), none, false⟩]) (.seq (.kp [0, 4, 9, 72, 73] (.cond (.t 74) .skip (.exit 4))) s_digest_words_block_p17))
def s_digest_words_block_p19 : SCode := (.seq (.kp [0, 4, 9, 72, 73] (.region false [⟨some 72, .call f_digest_constants [], none, false⟩,
  ⟨some 73, .mv (.v (.int .i64 0)), none, false⟩])) (.block 4 (.loop (some [0, 4, 9, 72, 73]) s_digest_words_block_p18)))
def s_digest_words_block_p20 : SCode := (.region true [⟨some 149, .mv (.t 0), none, true⟩,
  ⟨some 150, .mv (.t 16), none, true⟩,
  ⟨some 151, .nilck (.t 149), none, true⟩,
  ⟨some 152, .iaddrA 8 1 (.t 151) (.t 150), none, true⟩,
  ⟨some 153, .load none (.t 152), none, true⟩,
  ⟨some 154, .mv (.t 16), none, true⟩,
  ⟨some 155, .iaddrA 8 1 (.t 9) (.t 154), none, true⟩,
  ⟨some 156, .load none (.t 155), none, true⟩,
  ⟨some 157, .bin .add (.t 153) (.t 156), none, false⟩,
  ⟨some 158, .nilck (.t 149), none, true⟩,
  ⟨some 159, .iaddrA 8 1 (.t 158) (.t 150), none, false⟩,
  ⟨none, .store 1 [] (.t 159) (.t 157), none, false⟩])
def s_digest_words_block_p21 : SCode := (.seq (.kp [0, 9, 146] (.block 7 (.seq (.region false [⟨some 148, .mv (.t 146), none, false⟩,
  ⟨some 16, .mv (.t 148), none, false⟩]) s_digest_words_block_p20))) (.region false [⟨some 160, .bin .add (.t 146) (.v (.int .i64 1)), none, false⟩,
  ⟨some 146, .mv (.t 160), none, false⟩]))
def s_digest_words_block_p22 : SCode := (.seq (.region false [⟨some 147, .bin .lss (.t 146) (.v (.int .i64 8)), none, false⟩]) (.seq (.kp [0, 9, 146] (.cond (.t 147) .skip (.exit 6))) s_digest_words_block_p21))
def s_digest_words_block_p23 : SCode := (.seq (.kp [0, 4, 9] s_digest_words_block_p8) (.seq (.kp [0, 9] s_digest_words_block_p19) (.seq (.kp [0, 9, 146] (.region false [⟨some 146, .mv (.v (.int .i64 0)), none, false⟩])) (.block 6 (.loop (some [0, 9, 146]) s_digest_words_block_p22)))))
def s_digest_words_block_p24 : SCode := (.seq (.kp [0, 4] (.seq (.kp [0, 1, 4, 17] (.region false [⟨some 17, .mv (.v (.int .i64 0)), none, false⟩])) (.block 0 (.loop (some [0, 1, 4, 17]) s_digest_words_block_p3)))) (.seq (.kp [0, 4] (.seq (.kp [0, 4, 6] (.region false [⟨some 6, .mv (.v (.int .i64 16)), none, false⟩])) (.block 2 (.loop (some [0, 4, 6]) s_digest_words_block_p7)))) s_digest_words_block_p23))
def s_digest_words_block : SFn := ⟨2, [], (.seq s_digest_words_block_p0 s_digest_words_block_p24)⟩
def s_digest_Hash_Sum_p0 : SCode := (.region false [⟨some 2, .alloc true [(.int .u8 0), (.int .u8 0), (.int .u8 0), (.int .u8 0), (.int .u8 0), (.int .u8 0), (.int .u8 0), (.int .u8 0), (.int .u8 0), (.int .u8 0), (.int .u8 0), (.int .u8 0), (.int .u8 0), (.int .u8 0), (.int .u8 0), (.int .u8 0), (.int .u8 0), (.int .u8 0), (.int .u8 0), (.int .u8 0), (.int .u8 0), (.int .u8 0), (.int .u8 0), (.int .u8 0), (.int .u8 0), (.int .u8 0), (.int .u8 0), (.int .u8 0), (.int .u8 0), (.int .u8 0), (.int .u8 0), (.int .u8 0)], none, false⟩])
def s_digest_Hash_Sum_p1 : SCode := (.region false [⟨some 3, .alloc true [(.int .u8 0), (.int .u8 0), (.int .u8 0), (.int .u8 0), (.int .u8 0), (.int .u8 0), (.int .u8 0), (.int .u8 0), (.int .u8 0), (.int .u8 0), (.int .u8 0), (.int .u8 0), (.int .u8 0), (.int .u8 0), (.int .u8 0), (.int .u8 0), (.int .u8 0), (.int .u8 0), (.int .u8 0), (.int .u8 0), (.int .u8 0), (.int .u8 0), (.int .u8 0), (.int .u8 0), (.int .u8 0), (.int .u8 0), (.int .u8 0), (.int .u8 0), (.int .u8 0), (.int .u8 0), (.int .u8 0), (.int .u8 0)], none, false⟩])
def s_digest_Hash_Sum_p2 : SCode := (.region false [⟨some 9, .mv (.t 0), none, false⟩,
  ⟨some 10, .eq false false [.ptr] (.t 9) (.v .nilp), none, false⟩,
  ⟨some 11, .mv (.t 10), none, false⟩,
  ⟨some 12, .mv (.t 0), (some (11, false)), false⟩,
  ⟨some 13, .nilck (.t 12), (some (11, false)), false⟩,
  ⟨some 14, .faddr 10 (.t 13), (some (11, false)), false⟩,
  ⟨some 15, .load none (.t 14), (some (11, false)), false⟩,
  ⟨some 16, .un .not (.t 15), (some (11, false)), false⟩,
  ⟨some 17, .pick (.t 11) (.v (.bool true)) (.t 16), none, false⟩])
def s_digest_Hash_Sum_p3 : SCode := (.seq (.kp [0, 2, 3, 17] s_digest_Hash_Sum_p2) (.cond (.t 17) (.seq (.region false [⟨some 18, .load (some 32) (.t 3), none, false⟩,
  ⟨none, .store 32 [] (.t 2) (.t 18), none, false⟩]) .ret) .skip))
def s_digest_Hash_Sum_p4 : SCode := (.region false [⟨some 19, .mv (.t 0), none, false⟩,
  ⟨some 20, .nilck (.t 19), none, false⟩,
  ⟨some 21, .faddr 0 (.t 20), none, false⟩,
  ⟨some 22, .load (some 8) (.t 21), none, false⟩,
  ⟨some 4, .alloc true [(.int .u32 0), (.int .u32 0), (.int .u32 0), (.int .u32 0), (.int .u32 0), (.int .u32 0), (.int .u32 0), (.int .u32 0)], none, false⟩,
  ⟨none, .store 8 [] (.t 4) (.t 22), none, false⟩])
def s_digest_Hash_Sum_p5 : SCode := (.region false [⟨some 23, .bslice [] 0 1 [], none, false⟩,
  ⟨some 24, .mv (.t 0), none, false⟩,
  ⟨some 25, .nilck (.t 24), none, false⟩,
  ⟨some 26, .faddr 8 (.t 25), none, false⟩,
  ⟨some 27, .load none (.t 26), none, false⟩,
  ⟨some 28, .append 1 1 [(.int .u8 0)] [] (.t 23) (.t 27), none, false⟩,
  ⟨some 29, .bslice [(.int .u8 0)] 1 1 [(0, 1, (.v (.int .u8 128)))], none, false⟩,
  ⟨some 30, .append 1 1 [(.int .u8 0)] [] (.t 28) (.t 29), none, false⟩,
  ⟨some 5, .mv (.t 30), none, false⟩])
def s_digest_Hash_Sum_p6 : SCode := (.region false [⟨some 31, .mv (.t 5), none, false⟩,
  ⟨some 32, .len (.t 31), none, false⟩,
  ⟨some 33, .bin .rem (.t 32) (.v (.int .i64 64)), none, false⟩,
  ⟨some 34, .bin .neq (.t 33) (.v (.int .i64 56)), none, false⟩])
def s_digest_Hash_Sum_p7 : SCode := (.region false [⟨some 35, .mv (.t 5), none, false⟩,
  ⟨some 36, .bslice [(.int .u8 0)] 1 1 [(0, 1, (.v (.int .u8 0)))], none, false⟩,
  ⟨some 37, .append 1 1 [(.int .u8 0)] [] (.t 35) (.t 36), none, false⟩,
  ⟨some 5, .mv (.t 37), none, false⟩])
def s_digest_Hash_Sum_p8 : SCode := (.seq (.kp [0, 2, 3, 4, 5] (.seq s_digest_Hash_Sum_p6 (.cond (.t 34) .skip (.exit 0)))) (.block 1 s_digest_Hash_Sum_p7))
def s_digest_Hash_Sum_p9 : SCode := (.region false [⟨some 42, .mv (.t 5), none, false⟩,
  ⟨some 43, .mv (.t 0), none, false⟩,
  ⟨some 44, .nilck (.t 43), none, false⟩,
  ⟨some 45, .faddr 9 (.t 44), none, false⟩,
  ⟨some 46, .load none (.t 45), none, false⟩,
  ⟨some 47, .conv .u64 (.t 46), none, false⟩,
  ⟨some 48, .bin .shl (.t 47) (.v (.int .u64 3)), none, false⟩,
  ⟨some 49, .mv (.t 6), none, false⟩,
  ⟨some 50, .bin .shr (.t 48) (.t 49), none, false⟩,
  ⟨some 51, .conv .u8 (.t 50), none, false⟩,
  ⟨some 52, .bslice [(.int .u8 0)] 1 1 [(0, 1, (.t 51))], none, false⟩,
  ⟨some 53, .append 1 1 [(.int .u8 0)] [] (.t 42) (.t 52), none, false⟩,
  ⟨some 5, .mv (.t 53), none, false⟩])
def s_digest_Hash_Sum_p10 : SCode := (.seq (.kp [0, 2, 3, 4, 5, 6] (.block 3 s_digest_Hash_Sum_p9)) (.region false [⟨some 40, .mv (.t 6), none, false⟩,
  ⟨some 41, .bin .sub (.t 40) (.v (.int .i64 8)), none, false⟩,
  ⟨some 6, .mv (.t 41), none, false⟩]))
def s_digest_Hash_Sum_p11 : SCode := (.seq (.kp [0, 2, 3, 4, 5, 6] (.seq (.region false [⟨some 38, .mv (.t 6), none, false⟩,
  ⟨some 39, .bin .geq (.t 38) (.v (.int .i64 0)), none, false⟩]) (.cond (.t 39) .skip (.exit 2)))) s_digest_Hash_Sum_p10)
def s_digest_Hash_Sum_p12 : SCode := (.seq (.region false [⟨some 54, .mv (.t 5), none, false⟩,
  ⟨some 55, .len (.t 54), none, false⟩,
  ⟨some 56, .bin .gtr (.t 55) (.v (.int .i64 0)), none, false⟩]) (.cond (.t 56) .skip (.exit 4)))
def s_digest_Hash_Sum_p13 : SCode := (.region false [⟨some 59, .mv (.t 5), none, false⟩,
  ⟨some 60, .slice 1 (.t 59) none (some (.v (.int .i64 64))) none, none, false⟩,
  ⟨some 61, .call f_digest_words_block [(.t 4), (.t 60)], none, false⟩])
def s_digest_Hash_Sum_p14 : SCode := (.seq (.kp [2, 3, 4, 5] (.block 5 s_digest_Hash_Sum_p13)) (.region false [⟨some 57, .mv (.t 5), none, false⟩,
  ⟨some 58, .slice 1 (.t 57) (some (.v (.int .i64 64))) none none, none, false⟩,
  ⟨some 5, .mv (.t 58), none, false⟩]))
def s_digest_Hash_Sum_p15 : SCode := (.seq (.kp [2, 3, 4, 5] s_digest_Hash_Sum_p12) s_digest_Hash_Sum_p14)
def s_digest_Hash_Sum_p16 : SCode := (.region false [⟨some 65, .mv (.t 63), none, false⟩,
  ⟨some 66, .idxA 8 1 false (.t 62) (.t 63), none, false⟩,
  ⟨some 7, .mv (.t 65), none, false⟩,
  ⟨some 8, .mv (.t 66), none, false⟩])
def s_digest_Hash_Sum_p17 : SCode := (.region false [⟨some 67, .mv (.t 7), none, false⟩,
  ⟨some 68, .bin .mul (.v (.int .i64 4)) (.t 67), none, false⟩,
  ⟨some 69, .mv (.t 7), none, false⟩,
  ⟨some 70, .bin .mul (.v (.int .i64 4)) (.t 69), none, false⟩,
  ⟨some 71, .bin .add (.t 70) (.v (.int .i64 1)), none, false⟩,
  ⟨some 72, .mv (.t 7), none, false⟩,
  ⟨some 73, .bin .mul (.v (.int .i64 4)) (.t 72), none, false⟩,
  ⟨some 74, .bin .add (.t 73) (.v (.int .i64 2)), none, false⟩,
  ⟨some 75, .mv (.t 7), none, false⟩,
  ⟨some 76, .bin .mul (.v (.int .i64 4)) (.t 75), none, false⟩,
  ⟨some 77, .bin .add (.t 76) (.v (.int .i64 3)), none, false⟩,
  ⟨some 78, .mv (.t 8), none, false⟩,
  ⟨some 79, .bin .shr (.t 78) (.v (.int .u64 24)), none, false⟩,
  ⟨some 80, .conv .u8 (.t 79), none, false⟩,
  ⟨some 81, .mv (.t 8), none, false⟩,
  ⟨some 82, .bin .shr (.t 81) (.v (.int .u64 16)), none, false⟩,
  ⟨some 83, .conv .u8 (.t 82), none, false⟩,
  ⟨some 84, .mv (.t 8), none, false⟩,
  ⟨some 85, .bin .shr (.t 84) (.v (.int .u64 8)), none, false⟩,
  ⟨some 86, .conv .u8 (.t 85), none, false⟩,
  ⟨some 87, .mv (.t 8), none, false⟩,
  ⟨some 88, .conv .u8 (.t 87), none, false⟩,
  ⟨some 89, .iaddrA 32 1 (.t 3) (.t 68), none, false⟩,
  ⟨none, .store 1 [] (.t 89) (.t 80), none, false⟩,
  ⟨some 90, .iaddrA 32 1 (.t 3) (.t 71), none, false⟩,
  ⟨none, .store 1 [] (.t 90) (.t 83), none, false⟩,
  ⟨some 91, .iaddrA 32 1 (.t 3) (.t 74), none, false⟩,
  ⟨none, .store 1 [] (.t 91) (.t 86), none, false⟩,
  ⟨some 92, .iaddrA 32 1 (.t 3) (.t 77), none, false⟩,
  ⟨none, .store 1 [] (.t 92) (.t 88), none, false⟩])
def s_digest_Hash_Sum_p18 : SCode := (.seq (.kp [2, 3, 62, 63] (.cond (.t 64) .skip (.exit 6))) (.seq (.kp [2, 3, 62, 63] (.block 7 (.seq s_digest_Hash_Sum_p16 s_digest_Hash_Sum_p17))) (.region false [⟨some 93, .bin .add (.t 63) (.v (.int .i64 1)), none, false⟩,
  ⟨some 63, .mv (.t 93), none, false⟩])))
def s_digest_Hash_Sum_p19 : SCode := (.seq (.region false [⟨some 64, .bin .lss (.t 63) (.v (.int .i64 8)), none, false⟩]) s_digest_Hash_Sum_p18)
def s_digest_Hash_Sum_p20 : SCode := (.seq (.kp [2, 3, 62, 63] (.region false [⟨some 62, .load (some 8) (.t 4), none, false⟩,
  ⟨some 63, .mv (.v (.int .i64 0)), none, false⟩])) (.block 6 (.loop (some [2, 3, 62, 63]) s_digest_Hash_Sum_p19)))
def s_digest_Hash_Sum_p21 : SCode := (.seq (.kp [2, 3, 4] (.block 4 (.loop (some [2, 3, 4, 5]) s_digest_Hash_Sum_p15))) (.seq (.kp [2, 3] s_digest_Hash_Sum_p20) (.seq (.region false [⟨some 94, .load (some 32) (.t 3), none, false⟩,
  ⟨none, .store 32 [] (.t 2) (.t 94), none, false⟩]) .ret)))
def s_digest_Hash_Sum_p22 : SCode := (.seq (.kp [2, 3, 4, 5] (.seq (.kp [0, 2, 3, 4, 5, 6] (.region false [⟨some 6, .mv (.v (.int .i64 56)), none, false⟩])) (.block 2 (.loop (some [0, 2, 3, 4, 5, 6]) s_digest_Hash_Sum_p11)))) s_digest_Hash_Sum_p21)
def s_digest_Hash_Sum_p23 : SCode := (.seq (.kp [0, 2, 3] s_digest_Hash_Sum_p3) (.seq (.kp [0, 2, 3, 4] s_digest_Hash_Sum_p4) (.seq (.kp [0, 2, 3, 4, 5] s_digest_Hash_Sum_p5) (.seq (.kp [0, 2, 3, 4, 5] (.block 0 (.loop (some [0, 2, 3, 4, 5]) s_digest_Hash_Sum_p8))) s_digest_Hash_Sum_p22))))
def s_digest_Hash_Sum : SFn := ⟨1, [.cell 2 (some 32)], (.seq s_digest_Hash_Sum_p0 (.seq s_digest_Hash_Sum_p1 s_digest_Hash_Sum_p23))⟩
def s_digest_Hash_Write_p0 : SCode := (.region false [⟨some 4, .mv (.t 0), none, false⟩,
  ⟨some 5, .eq false false [.ptr] (.t 4) (.v .nilp), none, false⟩,
  ⟨some 6, .mv (.t 5), none, false⟩,
  ⟨some 7, .mv (.t 0), (some (6, false)), false⟩,
  ⟨some 8, .nilck (.t 7), (some (6, false)), false⟩,
  ⟨some 9, .faddr 10 (.t 8), (some (6, false)), false⟩,
  ⟨some 10, .load none (.t 9), (some (6, false)), false⟩,
  ⟨some 11, .un .not (.t 10), (some (6, false)), false⟩,
  ⟨some 12, .pick (.t 6) (.v (.bool true)) (.t 11), none, false⟩])
def s_digest_Hash_Write_p1 : SCode := (.region false [⟨some 13, .mv (.t 0), none, false⟩,
  ⟨some 14, .nilck (.t 13), none, false⟩,
  ⟨some 15, .faddr 9 (.t 14), none, false⟩,
  ⟨some 16, .load none (.t 15), none, false⟩,
  ⟨some 17, .mv (.t 1), none, false⟩,
  ⟨some 18, .len (.t 17), none, false⟩,
  ⟨some 19, .bin .add (.t 16) (.t 18), none, false⟩,
  ⟨some 20, .nilck (.t 13), none, false⟩,
  ⟨some 21, .faddr 9 (.t 20), none, false⟩,
  ⟨none, .store 1 [] (.t 21) (.t 19), none, false⟩])
def s_digest_Hash_Write_p2 : SCode := (.region false [⟨some 22, .mv (.t 0), none, false⟩,
  ⟨some 23, .mv (.t 0), none, false⟩,
  ⟨some 24, .nilck (.t 23), none, false⟩,
  ⟨some 25, .faddr 8 (.t 24), none, false⟩,
  ⟨some 26, .load none (.t 25), none, false⟩,
  ⟨some 27, .mv (.t 1), none, false⟩,
  ⟨some 28, .append 1 1 [(.int .u8 0)] [] (.t 26) (.t 27), none, false⟩,
  ⟨some 29, .nilck (.t 22), none, false⟩,
  ⟨some 30, .faddr 8 (.t 29), none, false⟩,
  ⟨none, .store 1 [] (.t 30) (.t 28), none, false⟩])
def s_digest_Hash_Write_p3 : SCode := (.region false [⟨some 31, .mv (.t 0), none, false⟩,
  ⟨some 32, .nilck (.t 31), none, false⟩,
  ⟨some 33, .faddr 8 (.t 32), none, false⟩,
  ⟨some 34, .load none (.t 33), none, false⟩,
  ⟨some 35, .len (.t 34), none, false⟩,
  ⟨some 36, .bin .geq (.t 35) (.v (.int .i64 64)), none, false⟩])
def s_digest_Hash_Write_p4 : SCode := (.region true [⟨some 37, .mv (.t 0), none, true⟩,
  ⟨some 38, .nilck (.t 37), none, true⟩,
  ⟨some 39, .faddr 0 (.t 38), none, true⟩,
  ⟨some 40, .mv (.t 0), none, false⟩,
  ⟨some 41, .nilck (.t 40), none, false⟩,
  ⟨some 42, .faddr 8 (.t 41), none, false⟩,
  ⟨some 43, .load none (.t 42), none, false⟩,
  ⟨some 44, .slice 1 (.t 43) none (some (.v (.int .i64 64))) none, none, false⟩,
  ⟨some 45, .call f_digest_words_block [(.t 39), (.t 44)], none, false⟩])
def s_digest_Hash_Write_p5 : SCode := (.region false [⟨some 46, .mv (.t 0), none, false⟩,
  ⟨some 47, .mv (.t 0), none, false⟩,
  ⟨some 48, .nilck (.t 47), none, false⟩,
  ⟨some 49, .faddr 8 (.t 48), none, false⟩,
  ⟨some 50, .load none (.t 49), none, false⟩,
  ⟨some 51, .slice 1 (.t 50) (some (.v (.int .i64 64))) none none, none, false⟩,
  ⟨some 52, .nilck (.t 46), none, false⟩,
  ⟨some 53, .faddr 8 (.t 52), none, false⟩,
  ⟨none, .store 1 [] (.t 53) (.t 51), none, false⟩])
def s_digest_Hash_Write_p6 : SCode := (.seq (.kp [0] (.seq (.kp [0, 36] s_digest_Hash_Write_p3) (.cond (.t 36) .skip (.exit 0)))) (.block 1 (.seq (.kp [0] s_digest_Hash_Write_p4) s_digest_Hash_Write_p5)))
def s_digest_Hash_Write : SFn := ⟨2, [], (.seq (.kp [0, 1] (.seq (.kp [0, 1, 12] s_digest_Hash_Write_p0) (.cond (.t 12) .ret .skip))) (.seq (.kp [0, 1] s_digest_Hash_Write_p1) (.seq (.kp [0] s_digest_Hash_Write_p2) (.block 0 (.loop (some [0]) s_digest_Hash_Write_p6)))))⟩
def s_digest_begun_p0 : SCode := (.region false [⟨some 1, .build [(.int .u32 0), (.int .u32 0), (.int .u32 0), (.int .u32 0), (.int .u32 0), (.int .u32 0), (.int .u32 0), (.int .u32 0)] [(0, 1, (.v (.int .u32 1779033703))), (1, 1, (.v (.int .u32 3144134277))), (2, 1, (.v (.int .u32 1013904242))), (3, 1, (.v (.int .u32 2773480762))), (4, 1, (.v (.int .u32 1359893119))), (5, 1, (.v (.int .u32 2600822924))), (6, 1, (.v (.int .u32 528734635))), (7, 1, (.v (.int .u32 1541459225)))], none, false⟩,
  ⟨none, .store 8 [] (.t 0) (.t 1), none, false⟩])
def s_digest_begun_p1 : SCode := (.seq (.region false [⟨some 0, .alloc true [(.int .u32 0), (.int .u32 0), (.int .u32 0), (.int .u32 0), (.int .u32 0), (.int .u32 0), (.int .u32 0), (.int .u32 0)], none, false⟩]) (.seq s_digest_begun_p0 .ret))
def s_digest_begun : SFn := ⟨0, [.cell 0 (some 8)], s_digest_begun_p1⟩
def s_digest_New_p0 : SCode := (.region false [⟨some 1, .call f_digest_begun [], none, false⟩,
  ⟨some 2, .build [(.int .u32 0), (.int .u32 0), (.int .u32 0), (.int .u32 0), (.int .u32 0), (.int .u32 0), (.int .u32 0), (.int .u32 0), .nils, (.int .i64 0), (.bool false)] [(0, 8, (.t 1)), (10, 1, (.v (.bool true)))], none, false⟩,
  ⟨some 3, .box false 11 (.t 2), none, false⟩,
  ⟨some 0, .mv (.t 3), none, false⟩])
def s_digest_New : SFn := ⟨0, [.t 0], (.seq (.region false [⟨some 0, .mv (.v .nilp), none, false⟩]) (.seq s_digest_New_p0 .ret))⟩
def s_digest_Of_p0 : SCode := (.region false [⟨some 2, .alloc true [(.int .u8 0), (.int .u8 0), (.int .u8 0), (.int .u8 0), (.int .u8 0), (.int .u8 0), (.int .u8 0), (.int .u8 0), (.int .u8 0), (.int .u8 0), (.int .u8 0), (.int .u8 0), (.int .u8 0), (.int .u8 0), (.int .u8 0), (.int .u8 0), (.int .u8 0), (.int .u8 0), (.int .u8 0), (.int .u8 0), (.int .u8 0), (.int .u8 0), (.int .u8 0), (.int .u8 0), (.int .u8 0), (.int .u8 0), (.int .u8 0), (.int .u8 0), (.int .u8 0), (.int .u8 0), (.int .u8 0), (.int .u8 0)], none, false⟩])
def s_digest_Of_p1 : SCode := (.seq (.region false [⟨some 5, .mv (.t 3), none, false⟩,
  ⟨some 6, .mv (.t 0), none, false⟩,
  ⟨some 7, .call f_digest_Hash_Write [(.t 5), (.t 6)], none, false⟩]) (.seq (.region false [⟨some 8, .mv (.t 3), none, false⟩,
  ⟨some 9, .call f_digest_Hash_Sum [(.t 8)], none, false⟩,
  ⟨none, .store 32 [] (.t 2) (.t 9), none, false⟩]) .ret))
def s_digest_Of : SFn := ⟨1, [.cell 2 (some 32)], (.seq s_digest_Of_p0 (.seq (.region false [⟨some 4, .call f_digest_New [], none, false⟩,
  ⟨some 3, .mv (.t 4), none, false⟩]) s_digest_Of_p1))⟩
def s_digest_Text_p0 : SCode := (.region true [⟨some 10, .mv (.t 3), none, false⟩,
  ⟨some 11, .mv (.t 5), none, false⟩,
  ⟨some 12, .bin .shr (.t 11) (.v (.int .u64 4)), none, false⟩,
  ⟨some 13, .idxS (.v (.str ⟨#[48, 49, 50, 51, 52, 53, 54, 55, 56, 57, 97, 98, 99, 100, 101, 102]⟩)) (.t 12), none, false⟩,
  ⟨some 14, .mv (.t 5), none, false⟩,
  ⟨some 15, .bin .and (.t 14) (.v (.int .u8 15)), none, false⟩,
  ⟨some 16, .idxS (.v (.str ⟨#[48, 49, 50, 51, 52, 53, 54, 55, 56, 57, 97, 98, 99, 100, 101, 102]⟩)) (.t 15), none, false⟩,
  ⟨some 17, .bslice [(.int .u8 0), (.int .u8 0)] 2 1 [(0, 1, (.t 13)), (1, 1, (.t 16))], none, false⟩,
  ⟨some 18, .append 1 1 [(.int .u8 0)] [] (.t 10) (.t 17), none, false⟩,
  ⟨some 3, .mv (.t 18), none, false⟩])
def s_digest_Text_p1 : SCode := (.seq (.kp [3, 6, 7] (.block 1 (.seq (.region false [⟨some 9, .idxA 32 1 false (.t 6) (.t 7), none, false⟩,
  ⟨some 5, .mv (.t 9), none, false⟩]) s_digest_Text_p0))) (.region false [⟨some 19, .bin .add (.t 7) (.v (.int .i64 1)), none, false⟩,
  ⟨some 7, .mv (.t 19), none, false⟩]))
def s_digest_Text_p2 : SCode := (.seq (.region false [⟨some 8, .bin .lss (.t 7) (.v (.int .i64 32)), none, false⟩]) (.seq (.kp [3, 6, 7] (.cond (.t 8) .skip (.exit 0))) s_digest_Text_p1))
def s_digest_Text_p3 : SCode := (.kp [3] (.seq (.kp [3, 6, 7] (.region false [⟨some 6, .load (some 32) (.t 1), none, false⟩,
  ⟨some 7, .mv (.v (.int .i64 0)), none, false⟩])) (.block 0 (.loop (some [3, 6, 7]) s_digest_Text_p2))))
def s_digest_Text_p4 : SCode := (.seq (.region false [⟨some 3, .mv (.v .nils), none, false⟩]) (.seq s_digest_Text_p3 (.seq (.region false [⟨some 20, .mv (.t 3), none, false⟩,
  ⟨some 21, .b2s (.t 20), none, false⟩,
  ⟨some 2, .mv (.t 21), none, false⟩]) .ret)))
def s_digest_Text : SFn := ⟨1, [.t 2], (.seq (.region false [⟨some 1, .box true 32 (.t 0), none, false⟩,
  ⟨some 2, .mv (.v (.str ⟨#[]⟩)), none, false⟩]) s_digest_Text_p4)⟩
def s_law27_awake_p0 : SCode := (.region false [⟨some 1, .bslice [(.int .u8 0), (.int .u8 0), (.int .u8 0)] 3 1 [(0, 1, (.v (.int .u8 97))), (1, 1, (.v (.int .u8 98))), (2, 1, (.v (.int .u8 99)))], none, false⟩,
  ⟨some 2, .fz (.t 1), none, false⟩,
  ⟨some 3, .call f_digest_Of [(.t 2)], none, false⟩,
  ⟨some 4, .call f_digest_Text [(.t 3)], none, false⟩,
  ⟨some 5, .bin .eql (.t 4) (.v (.str ⟨#[98, 97, 55, 56, 49, 54, 98, 102, 56, 102, 48, 49, 99, 102, 101, 97, 52, 49, 52, 49, 52, 48, 100, 101, 53, 100, 97, 101, 50, 50, 50, 51, 98, 48, 48, 51, 54, 49, 97, 51, 57, 54, 49, 55, 55, 97, 57, 99, 98, 52, 49, 48, 102, 102, 54, 49, 102, 50, 48, 48, 49, 53, 97, 100]⟩)), none, false⟩,
  ⟨some 0, .mv (.t 5), none, false⟩])
def s_law27_awake : SFn := ⟨0, [.t 0], (.seq (.region false [⟨some 0, .mv (.v (.bool false)), none, false⟩]) (.seq (.kp [0] s_law27_awake_p0) .ret))⟩
def s_ref27_turn_p0 : SCode := (.region false [⟨some 5, .mv (.t 0), none, false⟩,
  ⟨some 6, .mv (.t 1), none, false⟩,
  ⟨some 7, .bin .shr (.t 5) (.t 6), none, false⟩,
  ⟨some 8, .mv (.t 0), none, false⟩,
  ⟨some 9, .mv (.t 1), none, false⟩,
  ⟨some 10, .bin .sub (.v (.int .u64 32)) (.t 9), none, false⟩,
  ⟨some 11, .bin .shl (.t 8) (.t 10), none, false⟩,
  ⟨some 12, .bin .or (.t 7) (.t 11), none, false⟩,
  ⟨some 4, .mv (.t 12), none, false⟩])
def s_ref27_turn : SFn := ⟨2, [.t 4], (.seq (.region false [⟨some 4, .mv (.v (.int .u32 0)), none, false⟩]) (.seq (.kp [4] s_ref27_turn_p0) .ret))⟩
def s_ref27_block_p0 : SCode := (.region true [⟨some 27, .mv (.t 7), none, true⟩,
  ⟨some 28, .mv (.t 2), none, true⟩,
  ⟨some 29, .mv (.t 8), none, true⟩,
  ⟨some 30, .bin .mul (.v (.int .i64 4)) (.t 29), none, true⟩,
  ⟨some 31, .iaddr 1 (.t 28) (.t 30), none, true⟩,
  ⟨some 32, .load none (.t 31), none, true⟩,
  ⟨some 33, .conv .u32 (.t 32), none, true⟩,
  ⟨some 34, .bin .shl (.t 33) (.v (.int .u64 24)), none, true⟩,
  ⟨some 35, .mv (.t 2), none, true⟩,
  ⟨some 36, .mv (.t 8), none, true⟩,
  ⟨some 37, .bin .mul (.v (.int .i64 4)) (.t 36), none, true⟩,
  ⟨some 38, .bin .add (.t 37) (.v (.int .i64 1)), none, true⟩,
  ⟨some 39, .iaddr 1 (.t 35) (.t 38), none, true⟩,
  ⟨some 40, .load none (.t 39), none, true⟩,
  ⟨some 41, .conv .u32 (.t 40), none, true⟩,
  ⟨some 42, .bin .shl (.t 41) (.v (.int .u64 16)), none, true⟩,
  ⟨some 43, .bin .or (.t 34) (.t 42), none, true⟩,
  ⟨some 44, .mv (.t 2), none, true⟩,
  ⟨some 45, .mv (.t 8), none, true⟩,
  ⟨some 46, .bin .mul (.v (.int .i64 4)) (.t 45), none, true⟩,
  ⟨some 47, .bin .add (.t 46) (.v (.int .i64 2)), none, true⟩,
  ⟨some 48, .iaddr 1 (.t 44) (.t 47), none, true⟩,
  ⟨some 49, .load none (.t 48), none, true⟩,
  ⟨some 50, .conv .u32 (.t 49), none, true⟩,
  ⟨some 51, .bin .shl (.t 50) (.v (.int .u64 8)), none, true⟩,
  ⟨some 52, .bin .or (.t 43) (.t 51), none, true⟩,
  ⟨some 53, .mv (.t 2), none, true⟩,
  ⟨some 54, .mv (.t 8), none, true⟩,
  ⟨some 55, .bin .mul (.v (.int .i64 4)) (.t 54), none, true⟩,
  ⟨some 56, .bin .add (.t 55) (.v (.int .i64 3)), none, true⟩,
  ⟨some 57, .iaddr 1 (.t 53) (.t 56), none, true⟩,
  ⟨some 58, .load none (.t 57), none, true⟩,
  ⟨some 59, .conv .u32 (.t 58), none, true⟩,
  ⟨some 60, .bin .or (.t 52) (.t 59), none, false⟩,
  ⟨some 61, .bslice [(.int .u32 0)] 1 1 [(0, 1, (.t 60))], none, false⟩,
  ⟨some 62, .append 1 4 [(.int .u32 0)] [] (.t 27) (.t 61), none, false⟩,
  ⟨some 7, .mv (.t 62), none, false⟩])
def s_ref27_block_p1 : SCode := (.seq (.region false [⟨some 25, .mv (.t 8), none, false⟩,
  ⟨some 26, .bin .lss (.t 25) (.v (.int .i64 16)), none, false⟩]) (.cond (.t 26) (.seq (.kp [0, 1, 2, 7, 8] s_ref27_block_p0) (.exit 1)) .skip))
def s_ref27_block_p2 : SCode := (.region true [⟨some 63, .mv (.t 7), none, true⟩,
  ⟨some 64, .mv (.t 8), none, true⟩,
  ⟨some 65, .bin .sub (.t 64) (.v (.int .i64 15)), none, true⟩,
  ⟨some 66, .iaddr 1 (.t 63) (.t 65), none, true⟩,
  ⟨some 67, .load none (.t 66), none, true⟩,
  ⟨some 69, .mv (.t 7), none, true⟩,
  ⟨some 70, .mv (.t 8), none, true⟩,
  ⟨some 71, .bin .sub (.t 70) (.v (.int .i64 15)), none, true⟩,
  ⟨some 72, .iaddr 1 (.t 69) (.t 71), none, true⟩,
  ⟨some 73, .load none (.t 72), none, true⟩,
  ⟨some 76, .mv (.t 7), none, true⟩,
  ⟨some 77, .mv (.t 8), none, true⟩,
  ⟨some 78, .bin .sub (.t 77) (.v (.int .i64 15)), none, true⟩,
  ⟨some 79, .iaddr 1 (.t 76) (.t 78), none, true⟩,
  ⟨some 80, .load none (.t 79), none, true⟩,
  ⟨some 81, .bin .shr (.t 80) (.v (.int .u64 3)), none, true⟩,
  ⟨some 68, .call f_ref27_turn [(.t 67), (.v (.int .u64 7))], none, true⟩,
  ⟨some 74, .call f_ref27_turn [(.t 73), (.v (.int .u64 18))], none, true⟩,
  ⟨some 75, .bin .xor (.t 68) (.t 74), none, true⟩,
  ⟨some 82, .bin .xor (.t 75) (.t 81), none, false⟩,
  ⟨some 9, .mv (.t 82), none, false⟩])
def s_ref27_block_p3 : SCode := (.region true [⟨some 83, .mv (.t 7), none, true⟩,
  ⟨some 84, .mv (.t 8), none, true⟩,
  ⟨some 85, .bin .sub (.t 84) (.v (.int .i64 2)), none, true⟩,
  ⟨some 86, .iaddr 1 (.t 83) (.t 85), none, true⟩,
  ⟨some 87, .load none (.t 86), none, true⟩,
  ⟨some 89, .mv (.t 7), none, true⟩,
  ⟨some 90, .mv (.t 8), none, true⟩,
  ⟨some 91, .bin .sub (.t 90) (.v (.int .i64 2)), none, true⟩,
  ⟨some 92, .iaddr 1 (.t 89) (.t 91), none, true⟩,
  ⟨some 93, .load none (.t 92), none, true⟩,
  ⟨some 96, .mv (.t 7), none, true⟩,
  ⟨some 97, .mv (.t 8), none, true⟩,
  ⟨some 98, .bin .sub (.t 97) (.v (.int .i64 2)), none, true⟩,
  ⟨some 99, .iaddr 1 (.t 96) (.t 98), none, true⟩,
  ⟨some 100, .load none (.t 99), none, true⟩,
  ⟨some 101, .bin .shr (.t 100) (.v (.int .u64 10)), none, true⟩,
  ⟨some 88, .call f_ref27_turn [(.t 87), (.v (.int .u64 17))], none, true⟩,
  ⟨some 94, .call f_ref27_turn [(.t 93), (.v (.int .u64 19))], none, true⟩,
  ⟨some 95, .bin .xor (.t 88) (.t 94), none, true⟩,
  ⟨some 102, .bin .xor (.t 95) (.t 101), none, false⟩,
  ⟨some 10, .mv (.t 102), none, false⟩])
def s_ref27_block_p4 : SCode := (.region true [⟨some 103, .mv (.t 7), none, true⟩,
  ⟨some 104, .mv (.t 7), none, true⟩,
  ⟨some 105, .mv (.t 8), none, true⟩,
  ⟨some 106, .bin .sub (.t 105) (.v (.int .i64 16)), none, true⟩,
  ⟨some 107, .iaddr 1 (.t 104) (.t 106), none, true⟩,
  ⟨some 108, .load none (.t 107), none, true⟩,
  ⟨some 109, .mv (.t 9), none, true⟩,
  ⟨some 110, .bin .add (.t 108) (.t 109), none, true⟩,
  ⟨some 111, .mv (.t 7), none, true⟩,
  ⟨some 112, .mv (.t 8), none, true⟩,
  ⟨some 113, .bin .sub (.t 112) (.v (.int .i64 7)), none, true⟩,
  ⟨some 114, .iaddr 1 (.t 111) (.t 113), none, true⟩,
  ⟨some 115, .load none (.t 114), none, true⟩,
  ⟨some 116, .bin .add (.t 110) (.t 115), none, false⟩,
  ⟨some 117, .mv (.t 10), none, true⟩,
  ⟨some 118, .bin .add (.t 116) (.t 117), none, false⟩,
  ⟨some 119, .bslice [(.int .u32 0)] 1 1 [(0, 1, (.t 118))], none, false⟩,
  ⟨some 120, .append 1 4 [(.int .u32 0)] [] (.t 103) (.t 119), none, false⟩,
  ⟨some 7, .mv (.t 120), none, false⟩])
def s_ref27_block_p5 : SCode := (.seq (.kp [0, 1, 2, 7, 8] (.block 1 (.seq (.kp [0, 1, 2, 7, 8] s_ref27_block_p1) (.seq (.kp [0, 1, 2, 7, 8, 9] s_ref27_block_p2) (.seq (.kp [0, 1, 2, 7, 8, 9, 10] s_ref27_block_p3) s_ref27_block_p4))))) (.region false [⟨some 23, .mv (.t 8), none, false⟩,
  ⟨some 24, .bin .add (.t 23) (.v (.int .i64 1)), none, false⟩,
  ⟨some 8, .mv (.t 24), none, false⟩]))
def s_ref27_block_p6 : SCode := (.seq (.kp [0, 1, 2, 7, 8] (.seq (.region false [⟨some 21, .mv (.t 8), none, false⟩,
  ⟨some 22, .bin .lss (.t 21) (.v (.int .i64 64)), none, false⟩]) (.cond (.t 22) .skip (.exit 0)))) s_ref27_block_p5)
def s_ref27_block_p7 : SCode := (.region false [⟨some 121, .bslice [] 0 1 [], none, false⟩,
  ⟨some 122, .mv (.t 0), none, false⟩,
  ⟨some 123, .append 1 4 [(.int .u32 0)] [] (.t 121) (.t 122), none, false⟩,
  ⟨some 11, .mv (.t 123), none, false⟩])
def s_ref27_block_p8 : SCode := (.kp [0, 1, 7, 11, 12] (.seq (.region false [⟨some 124, .mv (.t 12), none, false⟩,
  ⟨some 125, .bin .lss (.t 124) (.v (.int .i64 64)), none, false⟩]) (.cond (.t 125) .skip (.exit 2))))
def s_ref27_block_p9 : SCode := (.region true [⟨some 128, .mv (.t 11), none, true⟩,
  ⟨some 129, .iaddr 1 (.t 128) (.v (.int .i64 4)), none, true⟩,
  ⟨some 130, .load none (.t 129), none, true⟩,
  ⟨some 132, .mv (.t 11), none, true⟩,
  ⟨some 133, .iaddr 1 (.t 132) (.v (.int .i64 4)), none, true⟩,
  ⟨some 134, .load none (.t 133), none, true⟩,
  ⟨some 137, .mv (.t 11), none, true⟩,
  ⟨some 138, .iaddr 1 (.t 137) (.v (.int .i64 4)), none, true⟩,
  ⟨some 139, .load none (.t 138), none, true⟩,
  ⟨some 131, .call f_ref27_turn [(.t 130), (.v (.int .u64 6))], none, true⟩,
  ⟨some 135, .call f_ref27_turn [(.t 134), (.v (.int .u64 11))], none, true⟩,
  ⟨some 136, .bin .xor (.t 131) (.t 135), none, true⟩,
  ⟨some 140, .call f_ref27_turn [(.t 139), (.v (.int .u64 25))], none, false⟩,
  ⟨some 141, .bin .xor (.t 136) (.t 140), none, false⟩,
  ⟨some 13, .mv (.t 141), none, false⟩])
def s_ref27_block_p10 : SCode := (.region true [⟨some 142, .mv (.t 11), none, true⟩,
  ⟨some 143, .iaddr 1 (.t 142) (.v (.int .i64 4)), none, true⟩,
  ⟨some 144, .load none (.t 143), none, true⟩,
  ⟨some 145, .mv (.t 11), none, true⟩,
  ⟨some 146, .iaddr 1 (.t 145) (.v (.int .i64 5)), none, true⟩,
  ⟨some 147, .load none (.t 146), none, true⟩,
  ⟨some 148, .bin .and (.t 144) (.t 147), none, true⟩,
  ⟨some 149, .mv (.t 11), none, true⟩,
  ⟨some 150, .iaddr 1 (.t 149) (.v (.int .i64 4)), none, true⟩,
  ⟨some 151, .load none (.t 150), none, true⟩,
  ⟨some 152, .bin .xor (.v (.int .u32 4294967295)) (.t 151), none, true⟩,
  ⟨some 153, .mv (.t 11), none, true⟩,
  ⟨some 154, .iaddr 1 (.t 153) (.v (.int .i64 6)), none, true⟩,
  ⟨some 155, .load none (.t 154), none, true⟩,
  ⟨some 156, .bin .and (.t 152) (.t 155), none, true⟩,
  ⟨some 157, .bin .xor (.t 148) (.t 156), none, false⟩,
  ⟨some 14, .mv (.t 157), none, false⟩])
def s_ref27_block_p11 : SCode := (.region true [⟨some 158, .mv (.t 11), none, true⟩,
  ⟨some 159, .iaddr 1 (.t 158) (.v (.int .i64 7)), none, true⟩,
  ⟨some 160, .load none (.t 159), none, true⟩,
  ⟨some 161, .mv (.t 13), none, true⟩,
  ⟨some 162, .bin .add (.t 160) (.t 161), none, true⟩,
  ⟨some 163, .mv (.t 14), none, true⟩,
  ⟨some 164, .bin .add (.t 162) (.t 163), none, true⟩,
  ⟨some 165, .mv (.t 1), none, true⟩,
  ⟨some 166, .mv (.t 12), none, true⟩,
  ⟨some 167, .iaddr 1 (.t 165) (.t 166), none, true⟩,
  ⟨some 168, .load none (.t 167), none, true⟩,
  ⟨some 169, .bin .add (.t 164) (.t 168), none, true⟩,
  ⟨some 170, .mv (.t 7), none, true⟩,
  ⟨some 171, .mv (.t 12), none, true⟩,
  ⟨some 172, .iaddr 1 (.t 170) (.t 171), none, true⟩,
  ⟨some 173, .load none (.t 172), none, true⟩,
  ⟨some 174, .bin .add (.t 169) (.t 173), none, false⟩,
  ⟨some 15, .mv (.t 174), none, false⟩])
def s_ref27_block_p12 : SCode := (.region true [⟨some 175, .mv (.t 11), none, true⟩,
  ⟨some 176, .iaddr 1 (.t 175) (.v (.int .i64 0)), none, true⟩,
  ⟨some 177, .load none (.t 176), none, true⟩,
  ⟨some 179, .mv (.t 11), none, true⟩,
  ⟨some 180, .iaddr 1 (.t 179) (.v (.int .i64 0)), none, true⟩,
  ⟨some 181, .load none (.t 180), none, true⟩,
  ⟨some 184, .mv (.t 11), none, true⟩,
  ⟨some 185, .iaddr 1 (.t 184) (.v (.int .i64 0)), none, true⟩,
  ⟨some 186, .load none (.t 185), none, true⟩,
  ⟨some 178, .call f_ref27_turn [(.t 177), (.v (.int .u64 2))], none, true⟩,
  ⟨some 182, .call f_ref27_turn [(.t 181), (.v (.int .u64 13))], none, true⟩,
  ⟨some 183, .bin .xor (.t 178) (.t 182), none, true⟩,
  ⟨some 187, .call f_ref27_turn [(.t 186), (.v (.int .u64 22))], none, false⟩,
  ⟨some 188, .bin .xor (.t 183) (.t 187), none, false⟩,
  ⟨some 16, .mv (.t 188), none, false⟩])
def s_ref27_block_p13 : SCode := (.region true [⟨some 189, .mv (.t 11), none, true⟩,
  ⟨some 190, .iaddr 1 (.t 189) (.v (.int .i64 0)), none, true⟩,
  ⟨some 191, .load none (.t 190), none, true⟩,
  ⟨some 192, .mv (.t 11), none, true⟩,
  ⟨some 193, .iaddr 1 (.t 192) (.v (.int .i64 1)), none, true⟩,
  ⟨some 194, .load none (.t 193), none, true⟩,
  ⟨some 195, .bin .and (.t 191) (.t 194), none, true⟩,
  ⟨some 196, .mv (.t 11), none, true⟩,
  ⟨some 197, .iaddr 1 (.t 196) (.v (.int .i64 0)), none, true⟩,
  ⟨some 198, .load none (.t 197), none, true⟩,
  ⟨some 199, .mv (.t 11), none, true⟩,
  ⟨some 200, .iaddr 1 (.t 199) (.v (.int .i64 2)), none, true⟩,
  ⟨some 201, .load none (.t 200), none, true⟩,
  ⟨some 202, .bin .and (.t 198) (.t 201), none, true⟩,
  ⟨some 203, .bin .xor (.t 195) (.t 202), none, true⟩,
  ⟨some 204, .mv (.t 11), none, true⟩,
  ⟨some 205, .iaddr 1 (.t 204) (.v (.int .i64 1)), none, true⟩,
  ⟨some 206, .load none (.t 205), none, true⟩,
  ⟨some 207, .mv (.t 11), none, true⟩,
  ⟨some 208, .iaddr 1 (.t 207) (.v (.int .i64 2)), none, true⟩,
  ⟨some 209, .load none (.t 208), none, true⟩,
  ⟨some 210, .bin .and (.t 206) (.t 209), none, true⟩,
  ⟨some 211, .bin .xor (.t 203) (.t 210), none, false⟩,
  ⟨some 17, .mv (.t 211), none, false⟩])
def s_ref27_block_p14 : SCode := (.region true [⟨some 212, .mv (.t 15), none, true⟩,
  ⟨some 213, .mv (.t 16), none, true⟩,
  ⟨some 214, .bin .add (.t 212) (.t 213), none, true⟩,
  ⟨some 215, .mv (.t 17), none, true⟩,
  ⟨some 216, .bin .add (.t 214) (.t 215), none, true⟩,
  ⟨some 217, .mv (.t 11), none, true⟩,
  ⟨some 218, .iaddr 1 (.t 217) (.v (.int .i64 0)), none, true⟩,
  ⟨some 219, .load none (.t 218), none, true⟩,
  ⟨some 220, .mv (.t 11), none, true⟩,
  ⟨some 221, .iaddr 1 (.t 220) (.v (.int .i64 1)), none, true⟩,
  ⟨some 222, .load none (.t 221), none, true⟩,
  ⟨some 223, .mv (.t 11), none, true⟩,
  ⟨some 224, .iaddr 1 (.t 223) (.v (.int .i64 2)), none, true⟩,
  ⟨some 225, .load none (.t 224), none, true⟩,
  ⟨some 226, .mv (.t 11), none, true⟩,
  ⟨some 227, .iaddr 1 (.t 226) (.v (.int .i64 3)), none, true⟩,
  ⟨some 228, .load none (.t 227), none, true⟩,
  ⟨some 229, .mv (.t 15), none, true⟩,
  ⟨some 230, .bin .add (.t 228) (.t 229), none, true⟩,
  ⟨some 231, .mv (.t 11), none, true⟩,
  ⟨some 232, .iaddr 1 (.t 231) (.v (.int .i64 4)), none, true⟩,
  ⟨some 233, .load none (.t 232), none, true⟩,
  ⟨some 234, .mv (.t 11), none, true⟩,
  ⟨some 235, .iaddr 1 (.t 234) (.v (.int .i64 5)), none, true⟩,
  ⟨some 236, .load none (.t 235), none, true⟩,
  ⟨some 237, .mv (.t 11), none, true⟩,
  ⟨some 238, .iaddr 1 (.t 237) (.v (.int .i64 6)), none, true⟩,
  ⟨some 239, .load none (.t 238), none, true⟩,
  ⟨some 240, .bslice [(.int .u32 0), (.int .u32 0), (.int .u32 0), (.int .u32 0), (.int .u32 0), (.int .u32 0), (.int .u32 0), (.int .u32 0)] 8 1 [(0, 1, (.t 216)), (1, 1, (.t 219)), (2, 1, (.t 222)), (3, 1, (.t 225)), (4, 1, (.t 230)), (5, 1, (.t 233)), (6, 1, (.t 236)), (7, 1, (.t 239))], none, false⟩,
  ⟨some 11, .mv (.t 240), none, false⟩])
def s_ref27_block_p15 : SCode := (.seq (.kp [0, 1, 7, 11, 12, 13, 14] s_ref27_block_p10) (.seq (.kp [0, 1, 7, 11, 12, 15] s_ref27_block_p11) (.seq (.kp [0, 1, 7, 11, 12, 15, 16] s_ref27_block_p12) (.seq (.kp [0, 1, 7, 11, 12, 15, 16, 17] s_ref27_block_p13) s_ref27_block_p14))))
def s_ref27_block_p16 : SCode := (.seq (.kp [0, 1, 7, 11, 12] (.block 3 (.seq (.kp [0, 1, 7, 11, 12, 13] s_ref27_block_p9) s_ref27_block_p15))) (.region false [⟨some 126, .mv (.t 12), none, false⟩,
  ⟨some 127, .bin .add (.t 126) (.v (.int .i64 1)), none, false⟩,
  ⟨some 12, .mv (.t 127), none, false⟩]))
def s_ref27_block_p17 : SCode := (.seq s_ref27_block_p8 s_ref27_block_p16)
def s_ref27_block_p18 : SCode := (.kp [0, 11, 18, 19] (.seq (.region false [⟨some 242, .mv (.t 19), none, false⟩,
  ⟨some 243, .bin .lss (.t 242) (.v (.int .i64 8)), none, false⟩]) (.cond (.t 243) .skip (.exit 4))))
def s_ref27_block_p19 : SCode := (.region true [⟨some 246, .mv (.t 18), none, true⟩,
  ⟨some 247, .mv (.t 0), none, true⟩,
  ⟨some 248, .mv (.t 19), none, true⟩,
  ⟨some 249, .iaddr 1 (.t 247) (.t 248), none, true⟩,
  ⟨some 250, .load none (.t 249), none, true⟩,
  ⟨some 251, .mv (.t 11), none, true⟩,
  ⟨some 252, .mv (.t 19), none, true⟩,
  ⟨some 253, .iaddr 1 (.t 251) (.t 252), none, true⟩,
  ⟨some 254, .load none (.t 253), none, true⟩,
  ⟨some 255, .bin .add (.t 250) (.t 254), none, false⟩,
  ⟨some 256, .bslice [(.int .u32 0)] 1 1 [(0, 1, (.t 255))], none, false⟩,
  ⟨some 257, .append 1 4 [(.int .u32 0)] [] (.t 246) (.t 256), none, false⟩,
  ⟨some 18, .mv (.t 257), none, false⟩])
def s_ref27_block_p20 : SCode := (.seq (.kp [0, 11, 18, 19] (.block 5 s_ref27_block_p19)) (.region false [⟨some 244, .mv (.t 19), none, false⟩,
  ⟨some 245, .bin .add (.t 244) (.v (.int .i64 1)), none, false⟩,
  ⟨some 19, .mv (.t 245), none, false⟩]))
def s_ref27_block_p21 : SCode := (.seq s_ref27_block_p18 s_ref27_block_p20)
def s_ref27_block_p22 : SCode := (.seq (.kp [18] (.seq (.kp [0, 11, 18, 19] (.region false [⟨some 19, .mv (.v (.int .i64 0)), none, false⟩])) (.block 4 (.loop (some [0, 11, 18, 19]) s_ref27_block_p21)))) (.seq (.region false [⟨some 258, .mv (.t 18), none, false⟩,
  ⟨some 6, .mv (.t 258), none, false⟩]) .ret))
def s_ref27_block_p23 : SCode := (.seq (.kp [0, 11] (.seq (.kp [0, 1, 7, 11, 12] (.region false [⟨some 12, .mv (.v (.int .i64 0)), none, false⟩])) (.block 2 (.loop (some [0, 1, 7, 11, 12]) s_ref27_block_p17)))) (.seq (.region false [⟨some 241, .bslice [] 0 1 [], none, false⟩,
  ⟨some 18, .mv (.t 241), none, false⟩]) s_ref27_block_p22))
def s_ref27_block_p24 : SCode := (.seq (.kp [0, 1, 7] (.seq (.kp [0, 1, 2, 7, 8] (.region false [⟨some 8, .mv (.v (.int .i64 0)), none, false⟩])) (.block 0 (.loop (some [0, 1, 2, 7, 8]) s_ref27_block_p6)))) (.seq s_ref27_block_p7 s_ref27_block_p23))
def s_ref27_block : SFn := ⟨3, [.t 6], (.seq (.region false [⟨some 6, .mv (.v .nils), none, false⟩]) (.seq (.region false [⟨some 20, .bslice [] 0 1 [], none, false⟩,
  ⟨some 7, .mv (.t 20), none, false⟩]) s_ref27_block_p24))⟩
def s_ref27_padded_p0 : SCode := (.region false [⟨some 6, .bslice [] 0 1 [], none, false⟩,
  ⟨some 7, .mv (.t 0), none, false⟩,
  ⟨some 8, .append 1 1 [(.int .u8 0)] [] (.t 6) (.t 7), none, false⟩,
  ⟨some 9, .bslice [(.int .u8 0)] 1 1 [(0, 1, (.v (.int .u8 128)))], none, false⟩,
  ⟨some 10, .append 1 1 [(.int .u8 0)] [] (.t 8) (.t 9), none, false⟩,
  ⟨some 3, .mv (.t 10), none, false⟩])
def s_ref27_padded_p1 : SCode := (.region false [⟨some 11, .mv (.t 3), none, false⟩,
  ⟨some 12, .len (.t 11), none, false⟩,
  ⟨some 13, .bin .rem (.t 12) (.v (.int .i64 64)), none, false⟩,
  ⟨some 14, .bin .neq (.t 13) (.v (.int .i64 56)), none, false⟩])
def s_ref27_padded_p2 : SCode := (.region false [⟨some 15, .mv (.t 3), none, false⟩,
  ⟨some 16, .bslice [(.int .u8 0)] 1 1 [(0, 1, (.v (.int .u8 0)))], none, false⟩,
  ⟨some 17, .append 1 1 [(.int .u8 0)] [] (.t 15) (.t 16), none, false⟩,
  ⟨some 3, .mv (.t 17), none, false⟩])
def s_ref27_padded_p3 : SCode := (.seq (.kp [0, 3] (.seq s_ref27_padded_p1 (.cond (.t 14) .skip (.exit 0)))) (.block 1 s_ref27_padded_p2))
def s_ref27_padded_p4 : SCode := (.region false [⟨some 18, .mv (.t 0), none, false⟩,
  ⟨some 19, .len (.t 18), none, false⟩,
  ⟨some 20, .conv .u64 (.t 19), none, false⟩,
  ⟨some 21, .bin .mul (.t 20) (.v (.int .u64 8)), none, false⟩,
  ⟨some 4, .mv (.t 21), none, false⟩])
def s_ref27_padded_p5 : SCode := (.region false [⟨some 26, .mv (.t 3), none, false⟩,
  ⟨some 27, .mv (.t 4), none, false⟩,
  ⟨some 28, .mv (.t 5), none, false⟩,
  ⟨some 29, .conv .u64 (.t 28), none, false⟩,
  ⟨some 30, .bin .shr (.t 27) (.t 29), none, false⟩,
  ⟨some 31, .conv .u8 (.t 30), none, false⟩,
  ⟨some 32, .bslice [(.int .u8 0)] 1 1 [(0, 1, (.t 31))], none, false⟩,
  ⟨some 33, .append 1 1 [(.int .u8 0)] [] (.t 26) (.t 32), none, false⟩,
  ⟨some 3, .mv (.t 33), none, false⟩])
def s_ref27_padded_p6 : SCode := (.seq (.kp [3, 4, 5] (.block 3 s_ref27_padded_p5)) (.region false [⟨some 24, .mv (.t 5), none, false⟩,
  ⟨some 25, .bin .sub (.t 24) (.v (.int .i64 8)), none, false⟩,
  ⟨some 5, .mv (.t 25), none, false⟩]))
def s_ref27_padded_p7 : SCode := (.seq (.kp [3, 4, 5] (.seq (.region false [⟨some 22, .mv (.t 5), none, false⟩,
  ⟨some 23, .bin .geq (.t 22) (.v (.int .i64 0)), none, false⟩]) (.cond (.t 23) .skip (.exit 2)))) s_ref27_padded_p6)
def s_ref27_padded_p8 : SCode := (.seq (.kp [3] (.seq (.kp [3, 4, 5] (.region false [⟨some 5, .mv (.v (.int .i64 56)), none, false⟩])) (.block 2 (.loop (some [3, 4, 5]) s_ref27_padded_p7)))) (.seq (.region false [⟨some 34, .mv (.t 3), none, false⟩,
  ⟨some 2, .mv (.t 34), none, false⟩]) .ret))
def s_ref27_padded_p9 : SCode := (.seq (.region false [⟨some 2, .mv (.v .nils), none, false⟩]) (.seq (.kp [0, 3] s_ref27_padded_p0) (.seq (.kp [0, 3] (.block 0 (.loop (some [0, 3]) s_ref27_padded_p3))) (.seq (.kp [3, 4] s_ref27_padded_p4) s_ref27_padded_p8))))
def s_ref27_padded : SFn := ⟨1, [.t 2], s_ref27_padded_p9⟩
def s_ref27_digits_p0 : SCode := (.region false [⟨some 3, .mv (.t 0), none, false⟩,
  ⟨some 4, .bin .rem (.t 3) (.v (.int .u64 65536)), none, false⟩,
  ⟨some 5, .mv (.t 0), none, false⟩,
  ⟨some 6, .bin .shr (.t 5) (.v (.int .u64 16)), none, false⟩,
  ⟨some 7, .bin .rem (.t 6) (.v (.int .u64 65536)), none, false⟩,
  ⟨some 8, .mv (.t 0), none, false⟩,
  ⟨some 9, .bin .shr (.t 8) (.v (.int .u64 32)), none, false⟩,
  ⟨some 10, .bin .rem (.t 9) (.v (.int .u64 65536)), none, false⟩,
  ⟨some 11, .mv (.t 0), none, false⟩,
  ⟨some 12, .bin .shr (.t 11) (.v (.int .u64 48)), none, false⟩,
  ⟨some 13, .bslice [(.int .u64 0), (.int .u64 0), (.int .u64 0), (.int .u64 0)] 4 1 [(0, 1, (.t 4)), (1, 1, (.t 7)), (2, 1, (.t 10)), (3, 1, (.t 12))], none, false⟩,
  ⟨some 2, .mv (.t 13), none, false⟩])
def s_ref27_digits : SFn := ⟨1, [.t 2], (.seq (.region false [⟨some 2, .mv (.v .nils), none, false⟩]) (.seq (.kp [2] s_ref27_digits_p0) .ret))⟩
def s_ref27_less_p0 : SCode := (.region false [⟨some 11, .mv (.t 1), none, false⟩,
  ⟨some 12, .len (.t 11), none, false⟩,
  ⟨some 13, .mv (.t 5), none, false⟩,
  ⟨some 14, .bin .gtr (.t 12) (.t 13), none, false⟩])
def s_ref27_less_p1 : SCode := (.kp [0, 1, 5] (.seq s_ref27_less_p0 (.cond (.t 14) (.region false [⟨some 15, .mv (.t 1), none, false⟩,
  ⟨some 16, .len (.t 15), none, false⟩,
  ⟨some 5, .mv (.t 16), none, false⟩]) .skip)))
def s_ref27_less_p2 : SCode := (.region false [⟨some 23, .mv (.t 6), none, false⟩,
  ⟨some 24, .mv (.t 0), none, false⟩,
  ⟨some 25, .len (.t 24), none, false⟩,
  ⟨some 26, .bin .lss (.t 23) (.t 25), none, false⟩])
def s_ref27_less_p3 : SCode := (.region false [⟨some 27, .mv (.t 0), none, false⟩,
  ⟨some 28, .mv (.t 6), none, false⟩,
  ⟨some 29, .iaddr 1 (.t 27) (.t 28), none, false⟩,
  ⟨some 30, .load none (.t 29), none, false⟩,
  ⟨some 7, .mv (.t 30), none, false⟩])
def s_ref27_less_p4 : SCode := (.region false [⟨some 31, .mv (.t 6), none, false⟩,
  ⟨some 32, .mv (.t 1), none, false⟩,
  ⟨some 33, .len (.t 32), none, false⟩,
  ⟨some 34, .bin .lss (.t 31) (.t 33), none, false⟩])
def s_ref27_less_p5 : SCode := (.region false [⟨some 35, .mv (.t 1), none, false⟩,
  ⟨some 36, .mv (.t 6), none, false⟩,
  ⟨some 37, .iaddr 1 (.t 35) (.t 36), none, false⟩,
  ⟨some 38, .load none (.t 37), none, false⟩,
  ⟨some 8, .mv (.t 38), none, false⟩])
def s_ref27_less_p6 : SCode := (.region false [⟨some 42, .mv (.t 7), none, false⟩,
  ⟨some 43, .mv (.t 8), none, false⟩,
  ⟨some 44, .bin .lss (.t 42) (.t 43), none, false⟩,
  ⟨some 4, .mv (.t 44), none, false⟩])
def s_ref27_less_p7 : SCode := (.seq (.region false [⟨some 39, .mv (.t 7), none, false⟩,
  ⟨some 40, .mv (.t 8), none, false⟩,
  ⟨some 41, .bin .neq (.t 39) (.t 40), none, false⟩]) (.cond (.t 41) (.seq s_ref27_less_p6 .ret) .skip))
def s_ref27_less_p8 : SCode := (.seq (.region false [⟨some 7, .mv (.v (.int .u64 0)), none, false⟩,
  ⟨some 8, .mv (.v (.int .u64 0)), none, false⟩]) (.seq (.kp [0, 1, 6, 7, 8] (.seq s_ref27_less_p2 (.cond (.t 26) s_ref27_less_p3 .skip))) (.seq (.kp [0, 1, 6, 7, 8] (.seq s_ref27_less_p4 (.cond (.t 34) s_ref27_less_p5 .skip))) s_ref27_less_p7)))
def s_ref27_less_p9 : SCode := (.seq (.kp [0, 1, 6] (.block 1 s_ref27_less_p8)) (.region false [⟨some 21, .mv (.t 6), none, false⟩,
  ⟨some 22, .bin .sub (.t 21) (.v (.int .i64 1)), none, false⟩,
  ⟨some 6, .mv (.t 22), none, false⟩]))
def s_ref27_less_p10 : SCode := (.seq (.kp [0, 1, 6] (.seq (.region false [⟨some 19, .mv (.t 6), none, false⟩,
  ⟨some 20, .bin .geq (.t 19) (.v (.int .i64 0)), none, false⟩]) (.cond (.t 20) .skip (.exit 0)))) s_ref27_less_p9)
def s_ref27_less_p11 : SCode := (.seq (.kp [0, 1, 6] (.region false [⟨some 17, .mv (.t 5), none, false⟩,
  ⟨some 18, .bin .sub (.t 17) (.v (.int .i64 1)), none, false⟩,
  ⟨some 6, .mv (.t 18), none, false⟩])) (.block 0 (.loop (some [0, 1, 6]) s_ref27_less_p10)))
def s_ref27_less_p12 : SCode := (.seq (.region false [⟨some 9, .mv (.t 0), none, false⟩,
  ⟨some 10, .len (.t 9), none, false⟩,
  ⟨some 5, .mv (.t 10), none, false⟩]) (.seq s_ref27_less_p1 (.seq (.kp [] s_ref27_less_p11) (.seq (.region false [⟨some 4, .mv (.v (.bool false)), none, false⟩]) .ret))))
def s_ref27_less : SFn := ⟨2, [.t 4], (.seq (.region false [⟨some 4, .mv (.v (.bool false)), none, false⟩]) s_ref27_less_p12)⟩
def s_ref27_product_p0 : SCode := (.region false [⟨some 9, .mv (.t 0), none, false⟩,
  ⟨some 10, .len (.t 9), none, false⟩,
  ⟨some 11, .mv (.t 1), none, false⟩,
  ⟨some 12, .len (.t 11), none, false⟩,
  ⟨some 13, .bin .add (.t 10) (.t 12), none, false⟩,
  ⟨some 14, .bin .add (.t 13) (.v (.int .i64 1)), none, false⟩,
  ⟨some 15, .mkslice [(.int .u64 0)] 8 (.t 14) (.t 14), none, false⟩,
  ⟨some 5, .mv (.t 15), none, false⟩])
def s_ref27_product_p1 : SCode := (.region false [⟨some 16, .mv (.t 6), none, false⟩,
  ⟨some 17, .mv (.t 0), none, false⟩,
  ⟨some 18, .len (.t 17), none, false⟩,
  ⟨some 19, .bin .lss (.t 16) (.t 18), none, false⟩])
def s_ref27_product_p2 : SCode := (.region false [⟨some 22, .mv (.t 8), none, false⟩,
  ⟨some 23, .mv (.t 1), none, false⟩,
  ⟨some 24, .len (.t 23), none, false⟩,
  ⟨some 25, .bin .lss (.t 22) (.t 24), none, false⟩,
  ⟨some 26, .mv (.t 25), none, false⟩,
  ⟨some 27, .mv (.t 7), (some (26, false)), false⟩,
  ⟨some 28, .bin .gtr (.t 27) (.v (.int .u64 0)), (some (26, false)), false⟩,
  ⟨some 29, .pick (.t 26) (.v (.bool true)) (.t 28), none, false⟩])
def s_ref27_product_p3 : SCode := (.region false [⟨some 32, .mv (.t 8), none, false⟩,
  ⟨some 33, .mv (.t 1), none, false⟩,
  ⟨some 34, .len (.t 33), none, false⟩,
  ⟨some 35, .bin .lss (.t 32) (.t 34), none, false⟩])
def s_ref27_product_p4 : SCode := (.region true [⟨some 36, .mv (.t 7), none, true⟩,
  ⟨some 37, .mv (.t 0), none, true⟩,
  ⟨some 38, .mv (.t 6), none, true⟩,
  ⟨some 39, .iaddr 1 (.t 37) (.t 38), none, true⟩,
  ⟨some 40, .load none (.t 39), none, true⟩,
  ⟨some 41, .mv (.t 1), none, true⟩,
  ⟨some 42, .mv (.t 8), none, true⟩,
  ⟨some 43, .iaddr 1 (.t 41) (.t 42), none, true⟩,
  ⟨some 44, .load none (.t 43), none, true⟩,
  ⟨some 45, .bin .mul (.t 40) (.t 44), none, false⟩,
  ⟨some 46, .bin .add (.t 36) (.t 45), none, false⟩,
  ⟨some 7, .mv (.t 46), none, false⟩])
def s_ref27_product_p5 : SCode := (.region false [⟨some 47, .mv (.t 7), none, false⟩,
  ⟨some 48, .mv (.t 5), none, false⟩,
  ⟨some 49, .mv (.t 6), none, false⟩,
  ⟨some 50, .mv (.t 8), none, false⟩,
  ⟨some 51, .bin .add (.t 49) (.t 50), none, false⟩,
  ⟨some 52, .iaddr 1 (.t 48) (.t 51), none, false⟩,
  ⟨some 53, .load none (.t 52), none, false⟩,
  ⟨some 54, .bin .add (.t 47) (.t 53), none, false⟩,
  ⟨some 7, .mv (.t 54), none, false⟩])
def s_ref27_product_p6 : SCode := (.region false [⟨some 55, .mv (.t 5), none, false⟩,
  ⟨some 56, .mv (.t 6), none, false⟩,
  ⟨some 57, .mv (.t 8), none, false⟩,
  ⟨some 58, .bin .add (.t 56) (.t 57), none, false⟩,
  ⟨some 59, .mv (.t 7), none, false⟩,
  ⟨some 60, .bin .rem (.t 59) (.v (.int .u64 65536)), none, false⟩,
  ⟨some 61, .iaddr 1 (.t 55) (.t 58), none, false⟩,
  ⟨none, .store 1 [] (.t 61) (.t 60), none, false⟩])
def s_ref27_product_p7 : SCode := (.seq (.kp [0, 1, 5, 6, 7, 8] s_ref27_product_p6) (.region false [⟨some 62, .mv (.t 7), none, false⟩,
  ⟨some 63, .bin .shr (.t 62) (.v (.int .u64 16)), none, false⟩,
  ⟨some 7, .mv (.t 63), none, false⟩]))
def s_ref27_product_p8 : SCode := (.seq (.kp [0, 1, 5, 6, 7, 8] (.block 3 (.seq (.kp [0, 1, 5, 6, 7, 8] (.seq s_ref27_product_p3 (.cond (.t 35) s_ref27_product_p4 .skip))) (.seq (.kp [0, 1, 5, 6, 7, 8] s_ref27_product_p5) s_ref27_product_p7)))) (.region false [⟨some 30, .mv (.t 8), none, false⟩,
  ⟨some 31, .bin .add (.t 30) (.v (.int .i64 1)), none, false⟩,
  ⟨some 8, .mv (.t 31), none, false⟩]))
def s_ref27_product_p9 : SCode := (.seq (.kp [0, 1, 5, 6, 7, 8] (.seq (.kp [0, 1, 5, 6, 7, 8, 29] s_ref27_product_p2) (.cond (.t 29) .skip (.exit 2)))) s_ref27_product_p8)
def s_ref27_product_p10 : SCode := (.seq (.region false [⟨some 7, .mv (.v (.int .u64 0)), none, false⟩]) (.seq (.kp [0, 1, 5, 6, 7, 8] (.region false [⟨some 8, .mv (.v (.int .i64 0)), none, false⟩])) (.block 2 (.loop (some [0, 1, 5, 6, 7, 8]) s_ref27_product_p9))))
def s_ref27_product_p11 : SCode := (.seq (.kp [0, 1, 5, 6] (.block 1 s_ref27_product_p10)) (.region false [⟨some 20, .mv (.t 6), none, false⟩,
  ⟨some 21, .bin .add (.t 20) (.v (.int .i64 1)), none, false⟩,
  ⟨some 6, .mv (.t 21), none, false⟩]))
def s_ref27_product_p12 : SCode := (.seq (.kp [0, 1, 5, 6] (.seq s_ref27_product_p1 (.cond (.t 19) .skip (.exit 0)))) s_ref27_product_p11)
def s_ref27_product_p13 : SCode := (.seq (.kp [5] (.seq (.kp [0, 1, 5, 6] (.region false [⟨some 6, .mv (.v (.int .i64 0)), none, false⟩])) (.block 0 (.loop (some [0, 1, 5, 6]) s_ref27_product_p12)))) (.seq (.region false [⟨some 64, .mv (.t 5), none, false⟩,
  ⟨some 4, .mv (.t 64), none, false⟩]) .ret))
def s_ref27_product : SFn := ⟨2, [.t 4], (.seq (.region false [⟨some 4, .mv (.v .nils), none, false⟩]) (.seq (.kp [0, 1, 5] s_ref27_product_p0) s_ref27_product_p13))⟩
def s_ref27_above_p0 : SCode := (.seq (.region false [⟨some 14, .mv (.t 9), none, false⟩,
  ⟨some 15, .mv (.t 2), none, false⟩,
  ⟨some 16, .bin .lss (.t 14) (.t 15), none, false⟩]) (.cond (.t 16) .skip (.exit 0)))
def s_ref27_above_p1 : SCode := (.region false [⟨some 19, .mv (.t 8), none, false⟩,
  ⟨some 20, .mv (.t 7), none, false⟩,
  ⟨some 21, .call f_ref27_product [(.t 19), (.t 20)], none, false⟩,
  ⟨some 8, .mv (.t 21), none, false⟩])
def s_ref27_above_p2 : SCode := (.seq (.kp [1, 2, 7, 8, 9] (.block 1 s_ref27_above_p1)) (.region false [⟨some 17, .mv (.t 9), none, false⟩,
  ⟨some 18, .bin .add (.t 17) (.v (.int .i64 1)), none, false⟩,
  ⟨some 9, .mv (.t 18), none, false⟩]))
def s_ref27_above_p3 : SCode := (.seq (.kp [1, 2, 7, 8, 9] s_ref27_above_p0) s_ref27_above_p2)
def s_ref27_above_p4 : SCode := (.region true [⟨some 22, .mv (.t 2), none, true⟩,
  ⟨some 23, .bin .mul (.v (.int .i64 2)) (.t 22), none, true⟩,
  ⟨some 25, .mv (.t 1), none, false⟩,
  ⟨some 26, .call f_ref27_digits [(.t 25)], none, false⟩,
  ⟨some 24, .mkslice [(.int .u64 0)] 8 (.t 23) (.t 23), none, true⟩,
  ⟨some 27, .append 1 8 [(.int .u64 0)] [] (.t 24) (.t 26), none, false⟩,
  ⟨some 10, .mv (.t 27), none, false⟩])
def s_ref27_above_p5 : SCode := (.region false [⟨some 28, .mv (.t 10), none, false⟩,
  ⟨some 29, .mv (.t 8), none, false⟩,
  ⟨some 30, .call f_ref27_less [(.t 28), (.t 29)], none, false⟩,
  ⟨some 6, .mv (.t 30), none, false⟩])
def s_ref27_above_p6 : SCode := (.seq (.kp [1, 2, 8] (.seq (.kp [1, 2, 7, 8, 9] (.region false [⟨some 9, .mv (.v (.int .i64 1)), none, false⟩])) (.block 0 (.loop (some [1, 2, 7, 8, 9]) s_ref27_above_p3)))) (.seq (.kp [8, 10] s_ref27_above_p4) (.seq s_ref27_above_p5 .ret)))
def s_ref27_above_p7 : SCode := (.seq (.region false [⟨some 11, .mv (.t 0), none, false⟩,
  ⟨some 12, .call f_ref27_digits [(.t 11)], none, false⟩,
  ⟨some 7, .mv (.t 12), none, false⟩]) (.seq (.region false [⟨some 13, .mv (.t 7), none, false⟩,
  ⟨some 8, .mv (.t 13), none, false⟩]) s_ref27_above_p6))
def s_ref27_above : SFn := ⟨3, [.t 6], (.seq (.region false [⟨some 6, .mv (.v (.bool false)), none, false⟩]) s_ref27_above_p7)⟩
def s_ref27_root_p0 : SCode := (.region false [⟨some 12, .mv (.t 5), none, false⟩,
  ⟨some 13, .mv (.t 6), none, false⟩,
  ⟨some 14, .conv .u64 (.t 13), none, false⟩,
  ⟨some 15, .bin .shl (.v (.int .u64 1)) (.t 14), none, false⟩,
  ⟨some 16, .bin .add (.t 12) (.t 15), none, false⟩,
  ⟨some 7, .mv (.t 16), none, false⟩])
def s_ref27_root_p1 : SCode := (.region false [⟨some 17, .mv (.t 7), none, false⟩,
  ⟨some 18, .mv (.t 0), none, false⟩,
  ⟨some 19, .mv (.t 1), none, false⟩,
  ⟨some 20, .call f_ref27_above [(.t 17), (.t 18), (.t 19)], none, false⟩,
  ⟨some 21, .un .not (.t 20), none, false⟩])
def s_ref27_root_p2 : SCode := (.seq (.kp [0, 1, 5, 6, 7] s_ref27_root_p0) (.seq (.kp [0, 1, 5, 6, 7, 21] s_ref27_root_p1) (.cond (.t 21) (.region false [⟨some 22, .mv (.t 7), none, false⟩,
  ⟨some 5, .mv (.t 22), none, false⟩]) .skip)))
def s_ref27_root_p3 : SCode := (.seq (.kp [0, 1, 5, 6] (.block 1 s_ref27_root_p2)) (.region false [⟨some 10, .mv (.t 6), none, false⟩,
  ⟨some 11, .bin .sub (.t 10) (.v (.int .i64 1)), none, false⟩,
  ⟨some 6, .mv (.t 11), none, false⟩]))
def s_ref27_root_p4 : SCode := (.seq (.kp [0, 1, 5, 6] (.seq (.region false [⟨some 8, .mv (.t 6), none, false⟩,
  ⟨some 9, .bin .geq (.t 8) (.v (.int .i64 0)), none, false⟩]) (.cond (.t 9) .skip (.exit 0)))) s_ref27_root_p3)
def s_ref27_root_p5 : SCode := (.region false [⟨some 23, .mv (.t 5), none, false⟩,
  ⟨some 24, .bin .rem (.t 23) (.v (.int .u64 4294967296)), none, false⟩,
  ⟨some 25, .conv .u32 (.t 24), none, false⟩,
  ⟨some 4, .mv (.t 25), none, false⟩])
def s_ref27_root_p6 : SCode := (.seq (.region false [⟨some 5, .mv (.v (.int .u64 0)), none, false⟩]) (.seq (.kp [5] (.seq (.kp [0, 1, 5, 6] (.region false [⟨some 6, .mv (.v (.int .i64 35)), none, false⟩])) (.block 0 (.loop (some [0, 1, 5, 6]) s_ref27_root_p4)))) (.seq s_ref27_root_p5 .ret)))
def s_ref27_root : SFn := ⟨2, [.t 4], (.seq (.region false [⟨some 4, .mv (.v (.int .u32 0)), none, false⟩]) s_ref27_root_p6)⟩
def s_ref27_roots_p0 : SCode := (.region false [⟨some 10, .mv (.t 5), none, false⟩,
  ⟨some 11, .len (.t 10), none, false⟩,
  ⟨some 12, .mv (.t 0), none, false⟩,
  ⟨some 13, .bin .lss (.t 11) (.t 12), none, false⟩])
def s_ref27_roots_p1 : SCode := (.region false [⟨some 16, .mv (.t 8), none, false⟩,
  ⟨some 17, .mv (.t 8), none, false⟩,
  ⟨some 18, .bin .mul (.t 16) (.t 17), none, false⟩,
  ⟨some 19, .mv (.t 6), none, false⟩,
  ⟨some 20, .bin .leq (.t 18) (.t 19), none, false⟩])
def s_ref27_roots_p2 : SCode := (.region false [⟨some 23, .mv (.t 7), none, false⟩,
  ⟨some 24, .mv (.t 23), none, false⟩,
  ⟨some 25, .mv (.t 6), (some (24, true)), false⟩,
  ⟨some 26, .mv (.t 8), (some (24, true)), false⟩,
  ⟨some 27, .bin .rem (.t 25) (.t 26), (some (24, true)), false⟩,
  ⟨some 28, .bin .neq (.t 27) (.v (.int .u64 0)), (some (24, true)), false⟩,
  ⟨some 29, .pick (.t 24) (.t 28) (.v (.bool false)), none, false⟩,
  ⟨some 7, .mv (.t 29), none, false⟩])
def s_ref27_roots_p3 : SCode := (.seq (.kp [0, 1, 5, 6, 7, 8] (.block 3 s_ref27_roots_p2)) (.region false [⟨some 21, .mv (.t 8), none, false⟩,
  ⟨some 22, .bin .add (.t 21) (.v (.int .u64 1)), none, false⟩,
  ⟨some 8, .mv (.t 22), none, false⟩]))
def s_ref27_roots_p4 : SCode := (.seq (.kp [0, 1, 5, 6, 7, 8] (.seq (.kp [0, 1, 5, 6, 7, 8, 20] s_ref27_roots_p1) (.cond (.t 20) .skip (.exit 2)))) s_ref27_roots_p3)
def s_ref27_roots_p5 : SCode := (.region false [⟨some 31, .mv (.t 5), none, false⟩,
  ⟨some 32, .mv (.t 6), none, false⟩,
  ⟨some 33, .mv (.t 1), none, false⟩,
  ⟨some 34, .call f_ref27_root [(.t 32), (.t 33)], none, false⟩,
  ⟨some 35, .bslice [(.int .u32 0)] 1 1 [(0, 1, (.t 34))], none, false⟩,
  ⟨some 36, .append 1 4 [(.int .u32 0)] [] (.t 31) (.t 35), none, false⟩,
  ⟨some 5, .mv (.t 36), none, false⟩])
def s_ref27_roots_p6 : SCode := (.seq (.kp [0, 1, 5, 6, 7] (.seq (.kp [0, 1, 5, 6, 7, 8] (.region false [⟨some 8, .mv (.v (.int .u64 2)), none, false⟩])) (.block 2 (.loop (some [0, 1, 5, 6, 7, 8]) s_ref27_roots_p4)))) (.seq (.region false [⟨some 30, .mv (.t 7), none, false⟩]) (.cond (.t 30) s_ref27_roots_p5 .skip)))
def s_ref27_roots_p7 : SCode := (.seq (.kp [0, 1, 5, 6] (.block 1 (.seq (.region false [⟨some 7, .mv (.v (.bool true)), none, false⟩]) s_ref27_roots_p6))) (.region false [⟨some 14, .mv (.t 6), none, false⟩,
  ⟨some 15, .bin .add (.t 14) (.v (.int .u64 1)), none, false⟩,
  ⟨some 6, .mv (.t 15), none, false⟩]))
def s_ref27_roots_p8 : SCode := (.seq (.kp [0, 1, 5, 6] (.seq s_ref27_roots_p0 (.cond (.t 13) .skip (.exit 0)))) s_ref27_roots_p7)
def s_ref27_roots_p9 : SCode := (.seq (.kp [5] (.seq (.kp [0, 1, 5, 6] (.region false [⟨some 6, .mv (.v (.int .u64 2)), none, false⟩])) (.block 0 (.loop (some [0, 1, 5, 6]) s_ref27_roots_p8)))) (.seq (.region false [⟨some 37, .mv (.t 5), none, false⟩,
  ⟨some 4, .mv (.t 37), none, false⟩]) .ret))
def s_ref27_roots : SFn := ⟨2, [.t 4], (.seq (.region false [⟨some 4, .mv (.v .nils), none, false⟩]) (.seq (.region false [⟨some 9, .bslice [] 0 1 [], none, false⟩,
  ⟨some 5, .mv (.t 9), none, false⟩]) s_ref27_roots_p9))⟩
def s_ref27_Of_p0 : SCode := (.region false [⟨some 2, .alloc true [(.int .u8 0), (.int .u8 0), (.int .u8 0), (.int .u8 0), (.int .u8 0), (.int .u8 0), (.int .u8 0), (.int .u8 0), (.int .u8 0), (.int .u8 0), (.int .u8 0), (.int .u8 0), (.int .u8 0), (.int .u8 0), (.int .u8 0), (.int .u8 0), (.int .u8 0), (.int .u8 0), (.int .u8 0), (.int .u8 0), (.int .u8 0), (.int .u8 0), (.int .u8 0), (.int .u8 0), (.int .u8 0), (.int .u8 0), (.int .u8 0), (.int .u8 0), (.int .u8 0), (.int .u8 0), (.int .u8 0), (.int .u8 0)], none, false⟩])
def s_ref27_Of_p1 : SCode := (.region false [⟨some 13, .mv (.t 6), none, false⟩,
  ⟨some 14, .mv (.t 5), none, false⟩,
  ⟨some 15, .len (.t 14), none, false⟩,
  ⟨some 16, .bin .lss (.t 13) (.t 15), none, false⟩])
def s_ref27_Of_p2 : SCode := (.region false [⟨some 19, .mv (.t 3), none, false⟩,
  ⟨some 20, .mv (.t 4), none, false⟩,
  ⟨some 21, .mv (.t 5), none, false⟩,
  ⟨some 22, .mv (.t 6), none, false⟩,
  ⟨some 23, .mv (.t 6), none, false⟩,
  ⟨some 24, .bin .add (.t 23) (.v (.int .i64 64)), none, false⟩,
  ⟨some 25, .slice 1 (.t 21) (some (.t 22)) (some (.t 24)) none, none, false⟩,
  ⟨some 26, .call f_ref27_block [(.t 19), (.t 20), (.t 25)], none, false⟩,
  ⟨some 3, .mv (.t 26), none, false⟩])
def s_ref27_Of_p3 : SCode := (.seq (.kp [2, 3, 4, 5, 6] (.block 1 s_ref27_Of_p2)) (.region false [⟨some 17, .mv (.t 6), none, false⟩,
  ⟨some 18, .bin .add (.t 17) (.v (.int .i64 64)), none, false⟩,
  ⟨some 6, .mv (.t 18), none, false⟩]))
def s_ref27_Of_p4 : SCode := (.seq (.kp [2, 3, 4, 5, 6] (.seq s_ref27_Of_p1 (.cond (.t 16) .skip (.exit 0)))) s_ref27_Of_p3)
def s_ref27_Of_p5 : SCode := (.region false [⟨some 27, .build [(.int .u8 0), (.int .u8 0), (.int .u8 0), (.int .u8 0), (.int .u8 0), (.int .u8 0), (.int .u8 0), (.int .u8 0), (.int .u8 0), (.int .u8 0), (.int .u8 0), (.int .u8 0), (.int .u8 0), (.int .u8 0), (.int .u8 0), (.int .u8 0), (.int .u8 0), (.int .u8 0), (.int .u8 0), (.int .u8 0), (.int .u8 0), (.int .u8 0), (.int .u8 0), (.int .u8 0), (.int .u8 0), (.int .u8 0), (.int .u8 0), (.int .u8 0), (.int .u8 0), (.int .u8 0), (.int .u8 0), (.int .u8 0)] [], none, false⟩,
  ⟨some 7, .alloc true [(.int .u8 0), (.int .u8 0), (.int .u8 0), (.int .u8 0), (.int .u8 0), (.int .u8 0), (.int .u8 0), (.int .u8 0), (.int .u8 0), (.int .u8 0), (.int .u8 0), (.int .u8 0), (.int .u8 0), (.int .u8 0), (.int .u8 0), (.int .u8 0), (.int .u8 0), (.int .u8 0), (.int .u8 0), (.int .u8 0), (.int .u8 0), (.int .u8 0), (.int .u8 0), (.int .u8 0), (.int .u8 0), (.int .u8 0), (.int .u8 0), (.int .u8 0), (.int .u8 0), (.int .u8 0), (.int .u8 0), (.int .u8 0)], none, false⟩,
  ⟨none, .store 32 [] (.t 7) (.t 27), none, false⟩])
def s_ref27_Of_p6 : SCode := (.region false [⟨some 32, .mv (.t 8), none, false⟩,
  ⟨some 33, .mv (.t 3), none, false⟩,
  ⟨some 34, .mv (.t 8), none, false⟩,
  ⟨some 35, .bin .quo (.t 34) (.v (.int .i64 4)), none, false⟩,
  ⟨some 36, .iaddr 1 (.t 33) (.t 35), none, false⟩,
  ⟨some 37, .load none (.t 36), none, false⟩,
  ⟨some 38, .mv (.t 8), none, false⟩,
  ⟨some 39, .bin .rem (.t 38) (.v (.int .i64 4)), none, false⟩,
  ⟨some 40, .bin .mul (.t 39) (.v (.int .i64 8)), none, false⟩,
  ⟨some 41, .bin .sub (.v (.int .i64 24)) (.t 40), none, false⟩,
  ⟨some 42, .conv .u64 (.t 41), none, false⟩,
  ⟨some 43, .bin .shr (.t 37) (.t 42), none, false⟩,
  ⟨some 44, .conv .u8 (.t 43), none, false⟩,
  ⟨some 45, .iaddrA 32 1 (.t 7) (.t 32), none, false⟩,
  ⟨none, .store 1 [] (.t 45) (.t 44), none, false⟩])
def s_ref27_Of_p7 : SCode := (.seq (.kp [2, 3, 7, 8] (.block 3 s_ref27_Of_p6)) (.region false [⟨some 30, .mv (.t 8), none, false⟩,
  ⟨some 31, .bin .add (.t 30) (.v (.int .i64 1)), none, false⟩,
  ⟨some 8, .mv (.t 31), none, false⟩]))
def s_ref27_Of_p8 : SCode := (.seq (.kp [2, 3, 7, 8] (.seq (.region false [⟨some 28, .mv (.t 8), none, false⟩,
  ⟨some 29, .bin .lss (.t 28) (.v (.int .i64 32)), none, false⟩]) (.cond (.t 29) .skip (.exit 2)))) s_ref27_Of_p7)
def s_ref27_Of_p9 : SCode := (.seq (.kp [2, 7] (.seq (.kp [2, 3, 7, 8] (.region false [⟨some 8, .mv (.v (.int .i64 0)), none, false⟩])) (.block 2 (.loop (some [2, 3, 7, 8]) s_ref27_Of_p8)))) (.seq (.region false [⟨some 46, .load (some 32) (.t 7), none, false⟩,
  ⟨none, .store 32 [] (.t 2) (.t 46), none, false⟩]) .ret))
def s_ref27_Of_p10 : SCode := (.seq (.kp [2, 3] (.seq (.kp [2, 3, 4, 5, 6] (.region false [⟨some 6, .mv (.v (.int .i64 0)), none, false⟩])) (.block 0 (.loop (some [2, 3, 4, 5, 6]) s_ref27_Of_p4)))) (.seq s_ref27_Of_p5 s_ref27_Of_p9))
def s_ref27_Of_p11 : SCode := (.seq (.region false [⟨some 10, .call f_ref27_roots [(.v (.int .i64 64)), (.v (.int .i64 3))], none, false⟩,
  ⟨some 4, .mv (.t 10), none, false⟩]) (.seq (.region false [⟨some 11, .mv (.t 0), none, false⟩,
  ⟨some 12, .call f_ref27_padded [(.t 11)], none, false⟩,
  ⟨some 5, .mv (.t 12), none, false⟩]) s_ref27_Of_p10))
def s_ref27_Of : SFn := ⟨1, [.cell 2 (some 32)], (.seq s_ref27_Of_p0 (.seq (.region false [⟨some 9, .call f_ref27_roots [(.v (.int .i64 8)), (.v (.int .i64 2))], none, false⟩,
  ⟨some 3, .mv (.t 9), none, false⟩]) s_ref27_Of_p11))⟩
def s_law27_DigestOf_p0 : SCode := (.seq (.region false [⟨some 3, .mv (.t 0), none, false⟩,
  ⟨some 4, .len (.t 3), none, false⟩,
  ⟨some 5, .bin .gtr (.t 4) (.v (.int .i64 4096)), none, false⟩]) (.cond (.t 5) (.seq (.region false [⟨some 6, .call f_law27_awake [], none, false⟩,
  ⟨some 2, .mv (.t 6), none, false⟩]) .ret) .skip))
def s_law27_DigestOf_p1 : SCode := (.region false [⟨some 7, .bslice [] 0 1 [], none, false⟩,
  ⟨some 8, .mv (.t 0), none, false⟩,
  ⟨some 9, .append 1 1 [(.int .u8 0)] [] (.t 7) (.t 8), none, false⟩,
  ⟨some 10, .call f_digest_Of [(.t 9)], none, false⟩,
  ⟨some 11, .mv (.t 0), none, false⟩,
  ⟨some 12, .call f_ref27_Of [(.t 11)], none, false⟩,
  ⟨some 13, .eq false true [.int, .int, .int, .int, .int, .int, .int, .int, .int, .int, .int, .int, .int, .int, .int, .int, .int, .int, .int, .int, .int, .int, .int, .int, .int, .int, .int, .int, .int, .int, .int, .int] (.t 10) (.t 12), none, false⟩,
  ⟨some 14, .mv (.t 13), none, false⟩,
  ⟨some 15, .call f_law27_awake [], (some (14, true)), false⟩,
  ⟨some 16, .pick (.t 14) (.t 15) (.v (.bool false)), none, false⟩,
  ⟨some 2, .mv (.t 16), none, false⟩])
def s_law27_DigestOf : SFn := ⟨1, [.t 2], (.seq (.region false [⟨some 2, .mv (.v (.bool false)), none, false⟩]) (.seq (.kp [0] s_law27_DigestOf_p0) (.seq (.kp [2] s_law27_DigestOf_p1) .ret)))⟩
def tb : Tbl := fun f => match f with
  | 3 => some s_law27_DigestOf
  | 11 => some s_law27_awake
  | 12 => some s_digest_Of
  | 13 => some s_ref27_Of
  | 14 => some s_digest_Text
  | 16 => some s_digest_New
  | 17 => some s_digest_Hash_Write
  | 19 => some s_digest_Hash_Sum
  | 35 => some s_ref27_roots
  | 36 => some s_ref27_padded
  | 37 => some s_ref27_block
  | 38 => some s_digest_begun
  | 39 => some s_digest_words_block
  | 57 => some s_ref27_root
  | 58 => some s_ref27_turn
  | 59 => some s_digest_high4
  | 60 => some s_digest_right
  | 61 => some s_digest_constants
  | 77 => some s_ref27_above
  | 78 => some s_math_bits_RotateLeft32
  | 82 => some s_ref27_digits
  | 83 => some s_ref27_product
  | 84 => some s_ref27_less
  | _ => none
@[go_sem] def u_digest_constants_p0 {F K fr m} := @RK_unf F K fr m _ _ s_digest_constants_p0.eq_1
@[go_sem] def u_digest_constants_p1 {F K fr m} := @RK_unf F K fr m _ _ s_digest_constants_p1.eq_1
theorem t_digest_constants : tb f_digest_constants = some s_digest_constants := rfl
@[go_sem] def u_digest_high4_p0 {F K fr m} := @RK_unf F K fr m _ _ s_digest_high4_p0.eq_1
theorem t_digest_high4 : tb f_digest_high4 = some s_digest_high4 := rfl
@[go_sem] def u_math_bits_RotateLeft32_p0 {F K fr m} := @RK_unf F K fr m _ _ s_math_bits_RotateLeft32_p0.eq_1
@[go_sem] def u_math_bits_RotateLeft32_p1 {F K fr m} := @RK_unf F K fr m _ _ s_math_bits_RotateLeft32_p1.eq_1
theorem t_math_bits_RotateLeft32 : tb f_math_bits_RotateLeft32 = some s_math_bits_RotateLeft32 := rfl
@[go_sem] def u_digest_right_p0 {F K fr m} := @RK_unf F K fr m _ _ s_digest_right_p0.eq_1
theorem t_digest_right : tb f_digest_right = some s_digest_right := rfl
@[go_sem] def u_digest_words_block_p0 {F K fr m} := @RK_unf F K fr m _ _ s_digest_words_block_p0.eq_1
@[go_sem] def u_digest_words_block_p1 {F K fr m} := @RK_unf F K fr m _ _ s_digest_words_block_p1.eq_1
@[go_sem] def u_digest_words_block_p2 {F K fr m} := @RK_unf F K fr m _ _ s_digest_words_block_p2.eq_1
@[go_sem] def u_digest_words_block_p3 {F K fr m} := @RK_unf F K fr m _ _ s_digest_words_block_p3.eq_1
@[go_sem] def u_digest_words_block_p4 {F K fr m} := @RK_unf F K fr m _ _ s_digest_words_block_p4.eq_1
@[go_sem] def u_digest_words_block_p5 {F K fr m} := @RK_unf F K fr m _ _ s_digest_words_block_p5.eq_1
@[go_sem] def u_digest_words_block_p6 {F K fr m} := @RK_unf F K fr m _ _ s_digest_words_block_p6.eq_1
@[go_sem] def u_digest_words_block_p7 {F K fr m} := @RK_unf F K fr m _ _ s_digest_words_block_p7.eq_1
@[go_sem] def u_digest_words_block_p8 {F K fr m} := @RK_unf F K fr m _ _ s_digest_words_block_p8.eq_1
@[go_sem] def u_digest_words_block_p9 {F K fr m} := @RK_unf F K fr m _ _ s_digest_words_block_p9.eq_1
@[go_sem] def u_digest_words_block_p10 {F K fr m} := @RK_unf F K fr m _ _ s_digest_words_block_p10.eq_1
@[go_sem] def u_digest_words_block_p11 {F K fr m} := @RK_unf F K fr m _ _ s_digest_words_block_p11.eq_1
@[go_sem] def u_digest_words_block_p12 {F K fr m} := @RK_unf F K fr m _ _ s_digest_words_block_p12.eq_1
@[go_sem] def u_digest_words_block_p13 {F K fr m} := @RK_unf F K fr m _ _ s_digest_words_block_p13.eq_1
@[go_sem] def u_digest_words_block_p14 {F K fr m} := @RK_unf F K fr m _ _ s_digest_words_block_p14.eq_1
@[go_sem] def u_digest_words_block_p15 {F K fr m} := @RK_unf F K fr m _ _ s_digest_words_block_p15.eq_1
@[go_sem] def u_digest_words_block_p16 {F K fr m} := @RK_unf F K fr m _ _ s_digest_words_block_p16.eq_1
@[go_sem] def u_digest_words_block_p17 {F K fr m} := @RK_unf F K fr m _ _ s_digest_words_block_p17.eq_1
@[go_sem] def u_digest_words_block_p18 {F K fr m} := @RK_unf F K fr m _ _ s_digest_words_block_p18.eq_1
@[go_sem] def u_digest_words_block_p19 {F K fr m} := @RK_unf F K fr m _ _ s_digest_words_block_p19.eq_1
@[go_sem] def u_digest_words_block_p20 {F K fr m} := @RK_unf F K fr m _ _ s_digest_words_block_p20.eq_1
@[go_sem] def u_digest_words_block_p21 {F K fr m} := @RK_unf F K fr m _ _ s_digest_words_block_p21.eq_1
@[go_sem] def u_digest_words_block_p22 {F K fr m} := @RK_unf F K fr m _ _ s_digest_words_block_p22.eq_1
@[go_sem] def u_digest_words_block_p23 {F K fr m} := @RK_unf F K fr m _ _ s_digest_words_block_p23.eq_1
@[go_sem] def u_digest_words_block_p24 {F K fr m} := @RK_unf F K fr m _ _ s_digest_words_block_p24.eq_1
theorem t_digest_words_block : tb f_digest_words_block = some s_digest_words_block := rfl
@[go_sem] def u_digest_Hash_Sum_p0 {F K fr m} := @RK_unf F K fr m _ _ s_digest_Hash_Sum_p0.eq_1
@[go_sem] def u_digest_Hash_Sum_p1 {F K fr m} := @RK_unf F K fr m _ _ s_digest_Hash_Sum_p1.eq_1
@[go_sem] def u_digest_Hash_Sum_p2 {F K fr m} := @RK_unf F K fr m _ _ s_digest_Hash_Sum_p2.eq_1
@[go_sem] def u_digest_Hash_Sum_p3 {F K fr m} := @RK_unf F K fr m _ _ s_digest_Hash_Sum_p3.eq_1
@[go_sem] def u_digest_Hash_Sum_p4 {F K fr m} := @RK_unf F K fr m _ _ s_digest_Hash_Sum_p4.eq_1
@[go_sem] def u_digest_Hash_Sum_p5 {F K fr m} := @RK_unf F K fr m _ _ s_digest_Hash_Sum_p5.eq_1
@[go_sem] def u_digest_Hash_Sum_p6 {F K fr m} := @RK_unf F K fr m _ _ s_digest_Hash_Sum_p6.eq_1
@[go_sem] def u_digest_Hash_Sum_p7 {F K fr m} := @RK_unf F K fr m _ _ s_digest_Hash_Sum_p7.eq_1
@[go_sem] def u_digest_Hash_Sum_p8 {F K fr m} := @RK_unf F K fr m _ _ s_digest_Hash_Sum_p8.eq_1
@[go_sem] def u_digest_Hash_Sum_p9 {F K fr m} := @RK_unf F K fr m _ _ s_digest_Hash_Sum_p9.eq_1
@[go_sem] def u_digest_Hash_Sum_p10 {F K fr m} := @RK_unf F K fr m _ _ s_digest_Hash_Sum_p10.eq_1
@[go_sem] def u_digest_Hash_Sum_p11 {F K fr m} := @RK_unf F K fr m _ _ s_digest_Hash_Sum_p11.eq_1
@[go_sem] def u_digest_Hash_Sum_p12 {F K fr m} := @RK_unf F K fr m _ _ s_digest_Hash_Sum_p12.eq_1
@[go_sem] def u_digest_Hash_Sum_p13 {F K fr m} := @RK_unf F K fr m _ _ s_digest_Hash_Sum_p13.eq_1
@[go_sem] def u_digest_Hash_Sum_p14 {F K fr m} := @RK_unf F K fr m _ _ s_digest_Hash_Sum_p14.eq_1
@[go_sem] def u_digest_Hash_Sum_p15 {F K fr m} := @RK_unf F K fr m _ _ s_digest_Hash_Sum_p15.eq_1
@[go_sem] def u_digest_Hash_Sum_p16 {F K fr m} := @RK_unf F K fr m _ _ s_digest_Hash_Sum_p16.eq_1
@[go_sem] def u_digest_Hash_Sum_p17 {F K fr m} := @RK_unf F K fr m _ _ s_digest_Hash_Sum_p17.eq_1
@[go_sem] def u_digest_Hash_Sum_p18 {F K fr m} := @RK_unf F K fr m _ _ s_digest_Hash_Sum_p18.eq_1
@[go_sem] def u_digest_Hash_Sum_p19 {F K fr m} := @RK_unf F K fr m _ _ s_digest_Hash_Sum_p19.eq_1
@[go_sem] def u_digest_Hash_Sum_p20 {F K fr m} := @RK_unf F K fr m _ _ s_digest_Hash_Sum_p20.eq_1
@[go_sem] def u_digest_Hash_Sum_p21 {F K fr m} := @RK_unf F K fr m _ _ s_digest_Hash_Sum_p21.eq_1
@[go_sem] def u_digest_Hash_Sum_p22 {F K fr m} := @RK_unf F K fr m _ _ s_digest_Hash_Sum_p22.eq_1
@[go_sem] def u_digest_Hash_Sum_p23 {F K fr m} := @RK_unf F K fr m _ _ s_digest_Hash_Sum_p23.eq_1
theorem t_digest_Hash_Sum : tb f_digest_Hash_Sum = some s_digest_Hash_Sum := rfl
@[go_sem] def u_digest_Hash_Write_p0 {F K fr m} := @RK_unf F K fr m _ _ s_digest_Hash_Write_p0.eq_1
@[go_sem] def u_digest_Hash_Write_p1 {F K fr m} := @RK_unf F K fr m _ _ s_digest_Hash_Write_p1.eq_1
@[go_sem] def u_digest_Hash_Write_p2 {F K fr m} := @RK_unf F K fr m _ _ s_digest_Hash_Write_p2.eq_1
@[go_sem] def u_digest_Hash_Write_p3 {F K fr m} := @RK_unf F K fr m _ _ s_digest_Hash_Write_p3.eq_1
@[go_sem] def u_digest_Hash_Write_p4 {F K fr m} := @RK_unf F K fr m _ _ s_digest_Hash_Write_p4.eq_1
@[go_sem] def u_digest_Hash_Write_p5 {F K fr m} := @RK_unf F K fr m _ _ s_digest_Hash_Write_p5.eq_1
@[go_sem] def u_digest_Hash_Write_p6 {F K fr m} := @RK_unf F K fr m _ _ s_digest_Hash_Write_p6.eq_1
theorem t_digest_Hash_Write : tb f_digest_Hash_Write = some s_digest_Hash_Write := rfl
@[go_sem] def u_digest_begun_p0 {F K fr m} := @RK_unf F K fr m _ _ s_digest_begun_p0.eq_1
@[go_sem] def u_digest_begun_p1 {F K fr m} := @RK_unf F K fr m _ _ s_digest_begun_p1.eq_1
theorem t_digest_begun : tb f_digest_begun = some s_digest_begun := rfl
@[go_sem] def u_digest_New_p0 {F K fr m} := @RK_unf F K fr m _ _ s_digest_New_p0.eq_1
theorem t_digest_New : tb f_digest_New = some s_digest_New := rfl
@[go_sem] def u_digest_Of_p0 {F K fr m} := @RK_unf F K fr m _ _ s_digest_Of_p0.eq_1
@[go_sem] def u_digest_Of_p1 {F K fr m} := @RK_unf F K fr m _ _ s_digest_Of_p1.eq_1
theorem t_digest_Of : tb f_digest_Of = some s_digest_Of := rfl
@[go_sem] def u_digest_Text_p0 {F K fr m} := @RK_unf F K fr m _ _ s_digest_Text_p0.eq_1
@[go_sem] def u_digest_Text_p1 {F K fr m} := @RK_unf F K fr m _ _ s_digest_Text_p1.eq_1
@[go_sem] def u_digest_Text_p2 {F K fr m} := @RK_unf F K fr m _ _ s_digest_Text_p2.eq_1
@[go_sem] def u_digest_Text_p3 {F K fr m} := @RK_unf F K fr m _ _ s_digest_Text_p3.eq_1
@[go_sem] def u_digest_Text_p4 {F K fr m} := @RK_unf F K fr m _ _ s_digest_Text_p4.eq_1
theorem t_digest_Text : tb f_digest_Text = some s_digest_Text := rfl
@[go_sem] def u_law27_awake_p0 {F K fr m} := @RK_unf F K fr m _ _ s_law27_awake_p0.eq_1
theorem t_law27_awake : tb f_law27_awake = some s_law27_awake := rfl
@[go_sem] def u_ref27_turn_p0 {F K fr m} := @RK_unf F K fr m _ _ s_ref27_turn_p0.eq_1
theorem t_ref27_turn : tb f_ref27_turn = some s_ref27_turn := rfl
@[go_sem] def u_ref27_block_p0 {F K fr m} := @RK_unf F K fr m _ _ s_ref27_block_p0.eq_1
@[go_sem] def u_ref27_block_p1 {F K fr m} := @RK_unf F K fr m _ _ s_ref27_block_p1.eq_1
@[go_sem] def u_ref27_block_p2 {F K fr m} := @RK_unf F K fr m _ _ s_ref27_block_p2.eq_1
@[go_sem] def u_ref27_block_p3 {F K fr m} := @RK_unf F K fr m _ _ s_ref27_block_p3.eq_1
@[go_sem] def u_ref27_block_p4 {F K fr m} := @RK_unf F K fr m _ _ s_ref27_block_p4.eq_1
@[go_sem] def u_ref27_block_p5 {F K fr m} := @RK_unf F K fr m _ _ s_ref27_block_p5.eq_1
@[go_sem] def u_ref27_block_p6 {F K fr m} := @RK_unf F K fr m _ _ s_ref27_block_p6.eq_1
@[go_sem] def u_ref27_block_p7 {F K fr m} := @RK_unf F K fr m _ _ s_ref27_block_p7.eq_1
@[go_sem] def u_ref27_block_p8 {F K fr m} := @RK_unf F K fr m _ _ s_ref27_block_p8.eq_1
@[go_sem] def u_ref27_block_p9 {F K fr m} := @RK_unf F K fr m _ _ s_ref27_block_p9.eq_1
@[go_sem] def u_ref27_block_p10 {F K fr m} := @RK_unf F K fr m _ _ s_ref27_block_p10.eq_1
@[go_sem] def u_ref27_block_p11 {F K fr m} := @RK_unf F K fr m _ _ s_ref27_block_p11.eq_1
@[go_sem] def u_ref27_block_p12 {F K fr m} := @RK_unf F K fr m _ _ s_ref27_block_p12.eq_1
@[go_sem] def u_ref27_block_p13 {F K fr m} := @RK_unf F K fr m _ _ s_ref27_block_p13.eq_1
@[go_sem] def u_ref27_block_p14 {F K fr m} := @RK_unf F K fr m _ _ s_ref27_block_p14.eq_1
@[go_sem] def u_ref27_block_p15 {F K fr m} := @RK_unf F K fr m _ _ s_ref27_block_p15.eq_1
@[go_sem] def u_ref27_block_p16 {F K fr m} := @RK_unf F K fr m _ _ s_ref27_block_p16.eq_1
@[go_sem] def u_ref27_block_p17 {F K fr m} := @RK_unf F K fr m _ _ s_ref27_block_p17.eq_1
@[go_sem] def u_ref27_block_p18 {F K fr m} := @RK_unf F K fr m _ _ s_ref27_block_p18.eq_1
@[go_sem] def u_ref27_block_p19 {F K fr m} := @RK_unf F K fr m _ _ s_ref27_block_p19.eq_1
@[go_sem] def u_ref27_block_p20 {F K fr m} := @RK_unf F K fr m _ _ s_ref27_block_p20.eq_1
@[go_sem] def u_ref27_block_p21 {F K fr m} := @RK_unf F K fr m _ _ s_ref27_block_p21.eq_1
@[go_sem] def u_ref27_block_p22 {F K fr m} := @RK_unf F K fr m _ _ s_ref27_block_p22.eq_1
@[go_sem] def u_ref27_block_p23 {F K fr m} := @RK_unf F K fr m _ _ s_ref27_block_p23.eq_1
@[go_sem] def u_ref27_block_p24 {F K fr m} := @RK_unf F K fr m _ _ s_ref27_block_p24.eq_1
theorem t_ref27_block : tb f_ref27_block = some s_ref27_block := rfl
@[go_sem] def u_ref27_padded_p0 {F K fr m} := @RK_unf F K fr m _ _ s_ref27_padded_p0.eq_1
@[go_sem] def u_ref27_padded_p1 {F K fr m} := @RK_unf F K fr m _ _ s_ref27_padded_p1.eq_1
@[go_sem] def u_ref27_padded_p2 {F K fr m} := @RK_unf F K fr m _ _ s_ref27_padded_p2.eq_1
@[go_sem] def u_ref27_padded_p3 {F K fr m} := @RK_unf F K fr m _ _ s_ref27_padded_p3.eq_1
@[go_sem] def u_ref27_padded_p4 {F K fr m} := @RK_unf F K fr m _ _ s_ref27_padded_p4.eq_1
@[go_sem] def u_ref27_padded_p5 {F K fr m} := @RK_unf F K fr m _ _ s_ref27_padded_p5.eq_1
@[go_sem] def u_ref27_padded_p6 {F K fr m} := @RK_unf F K fr m _ _ s_ref27_padded_p6.eq_1
@[go_sem] def u_ref27_padded_p7 {F K fr m} := @RK_unf F K fr m _ _ s_ref27_padded_p7.eq_1
@[go_sem] def u_ref27_padded_p8 {F K fr m} := @RK_unf F K fr m _ _ s_ref27_padded_p8.eq_1
@[go_sem] def u_ref27_padded_p9 {F K fr m} := @RK_unf F K fr m _ _ s_ref27_padded_p9.eq_1
theorem t_ref27_padded : tb f_ref27_padded = some s_ref27_padded := rfl
@[go_sem] def u_ref27_digits_p0 {F K fr m} := @RK_unf F K fr m _ _ s_ref27_digits_p0.eq_1
theorem t_ref27_digits : tb f_ref27_digits = some s_ref27_digits := rfl
@[go_sem] def u_ref27_less_p0 {F K fr m} := @RK_unf F K fr m _ _ s_ref27_less_p0.eq_1
@[go_sem] def u_ref27_less_p1 {F K fr m} := @RK_unf F K fr m _ _ s_ref27_less_p1.eq_1
@[go_sem] def u_ref27_less_p2 {F K fr m} := @RK_unf F K fr m _ _ s_ref27_less_p2.eq_1
@[go_sem] def u_ref27_less_p3 {F K fr m} := @RK_unf F K fr m _ _ s_ref27_less_p3.eq_1
@[go_sem] def u_ref27_less_p4 {F K fr m} := @RK_unf F K fr m _ _ s_ref27_less_p4.eq_1
@[go_sem] def u_ref27_less_p5 {F K fr m} := @RK_unf F K fr m _ _ s_ref27_less_p5.eq_1
@[go_sem] def u_ref27_less_p6 {F K fr m} := @RK_unf F K fr m _ _ s_ref27_less_p6.eq_1
@[go_sem] def u_ref27_less_p7 {F K fr m} := @RK_unf F K fr m _ _ s_ref27_less_p7.eq_1
@[go_sem] def u_ref27_less_p8 {F K fr m} := @RK_unf F K fr m _ _ s_ref27_less_p8.eq_1
@[go_sem] def u_ref27_less_p9 {F K fr m} := @RK_unf F K fr m _ _ s_ref27_less_p9.eq_1
@[go_sem] def u_ref27_less_p10 {F K fr m} := @RK_unf F K fr m _ _ s_ref27_less_p10.eq_1
@[go_sem] def u_ref27_less_p11 {F K fr m} := @RK_unf F K fr m _ _ s_ref27_less_p11.eq_1
@[go_sem] def u_ref27_less_p12 {F K fr m} := @RK_unf F K fr m _ _ s_ref27_less_p12.eq_1
theorem t_ref27_less : tb f_ref27_less = some s_ref27_less := rfl
@[go_sem] def u_ref27_product_p0 {F K fr m} := @RK_unf F K fr m _ _ s_ref27_product_p0.eq_1
@[go_sem] def u_ref27_product_p1 {F K fr m} := @RK_unf F K fr m _ _ s_ref27_product_p1.eq_1
@[go_sem] def u_ref27_product_p2 {F K fr m} := @RK_unf F K fr m _ _ s_ref27_product_p2.eq_1
@[go_sem] def u_ref27_product_p3 {F K fr m} := @RK_unf F K fr m _ _ s_ref27_product_p3.eq_1
@[go_sem] def u_ref27_product_p4 {F K fr m} := @RK_unf F K fr m _ _ s_ref27_product_p4.eq_1
@[go_sem] def u_ref27_product_p5 {F K fr m} := @RK_unf F K fr m _ _ s_ref27_product_p5.eq_1
@[go_sem] def u_ref27_product_p6 {F K fr m} := @RK_unf F K fr m _ _ s_ref27_product_p6.eq_1
@[go_sem] def u_ref27_product_p7 {F K fr m} := @RK_unf F K fr m _ _ s_ref27_product_p7.eq_1
@[go_sem] def u_ref27_product_p8 {F K fr m} := @RK_unf F K fr m _ _ s_ref27_product_p8.eq_1
@[go_sem] def u_ref27_product_p9 {F K fr m} := @RK_unf F K fr m _ _ s_ref27_product_p9.eq_1
@[go_sem] def u_ref27_product_p10 {F K fr m} := @RK_unf F K fr m _ _ s_ref27_product_p10.eq_1
@[go_sem] def u_ref27_product_p11 {F K fr m} := @RK_unf F K fr m _ _ s_ref27_product_p11.eq_1
@[go_sem] def u_ref27_product_p12 {F K fr m} := @RK_unf F K fr m _ _ s_ref27_product_p12.eq_1
@[go_sem] def u_ref27_product_p13 {F K fr m} := @RK_unf F K fr m _ _ s_ref27_product_p13.eq_1
theorem t_ref27_product : tb f_ref27_product = some s_ref27_product := rfl
@[go_sem] def u_ref27_above_p0 {F K fr m} := @RK_unf F K fr m _ _ s_ref27_above_p0.eq_1
@[go_sem] def u_ref27_above_p1 {F K fr m} := @RK_unf F K fr m _ _ s_ref27_above_p1.eq_1
@[go_sem] def u_ref27_above_p2 {F K fr m} := @RK_unf F K fr m _ _ s_ref27_above_p2.eq_1
@[go_sem] def u_ref27_above_p3 {F K fr m} := @RK_unf F K fr m _ _ s_ref27_above_p3.eq_1
@[go_sem] def u_ref27_above_p4 {F K fr m} := @RK_unf F K fr m _ _ s_ref27_above_p4.eq_1
@[go_sem] def u_ref27_above_p5 {F K fr m} := @RK_unf F K fr m _ _ s_ref27_above_p5.eq_1
@[go_sem] def u_ref27_above_p6 {F K fr m} := @RK_unf F K fr m _ _ s_ref27_above_p6.eq_1
@[go_sem] def u_ref27_above_p7 {F K fr m} := @RK_unf F K fr m _ _ s_ref27_above_p7.eq_1
theorem t_ref27_above : tb f_ref27_above = some s_ref27_above := rfl
@[go_sem] def u_ref27_root_p0 {F K fr m} := @RK_unf F K fr m _ _ s_ref27_root_p0.eq_1
@[go_sem] def u_ref27_root_p1 {F K fr m} := @RK_unf F K fr m _ _ s_ref27_root_p1.eq_1
@[go_sem] def u_ref27_root_p2 {F K fr m} := @RK_unf F K fr m _ _ s_ref27_root_p2.eq_1
@[go_sem] def u_ref27_root_p3 {F K fr m} := @RK_unf F K fr m _ _ s_ref27_root_p3.eq_1
@[go_sem] def u_ref27_root_p4 {F K fr m} := @RK_unf F K fr m _ _ s_ref27_root_p4.eq_1
@[go_sem] def u_ref27_root_p5 {F K fr m} := @RK_unf F K fr m _ _ s_ref27_root_p5.eq_1
@[go_sem] def u_ref27_root_p6 {F K fr m} := @RK_unf F K fr m _ _ s_ref27_root_p6.eq_1
theorem t_ref27_root : tb f_ref27_root = some s_ref27_root := rfl
@[go_sem] def u_ref27_roots_p0 {F K fr m} := @RK_unf F K fr m _ _ s_ref27_roots_p0.eq_1
@[go_sem] def u_ref27_roots_p1 {F K fr m} := @RK_unf F K fr m _ _ s_ref27_roots_p1.eq_1
@[go_sem] def u_ref27_roots_p2 {F K fr m} := @RK_unf F K fr m _ _ s_ref27_roots_p2.eq_1
@[go_sem] def u_ref27_roots_p3 {F K fr m} := @RK_unf F K fr m _ _ s_ref27_roots_p3.eq_1
@[go_sem] def u_ref27_roots_p4 {F K fr m} := @RK_unf F K fr m _ _ s_ref27_roots_p4.eq_1
@[go_sem] def u_ref27_roots_p5 {F K fr m} := @RK_unf F K fr m _ _ s_ref27_roots_p5.eq_1
@[go_sem] def u_ref27_roots_p6 {F K fr m} := @RK_unf F K fr m _ _ s_ref27_roots_p6.eq_1
@[go_sem] def u_ref27_roots_p7 {F K fr m} := @RK_unf F K fr m _ _ s_ref27_roots_p7.eq_1
@[go_sem] def u_ref27_roots_p8 {F K fr m} := @RK_unf F K fr m _ _ s_ref27_roots_p8.eq_1
@[go_sem] def u_ref27_roots_p9 {F K fr m} := @RK_unf F K fr m _ _ s_ref27_roots_p9.eq_1
theorem t_ref27_roots : tb f_ref27_roots = some s_ref27_roots := rfl
@[go_sem] def u_ref27_Of_p0 {F K fr m} := @RK_unf F K fr m _ _ s_ref27_Of_p0.eq_1
@[go_sem] def u_ref27_Of_p1 {F K fr m} := @RK_unf F K fr m _ _ s_ref27_Of_p1.eq_1
@[go_sem] def u_ref27_Of_p2 {F K fr m} := @RK_unf F K fr m _ _ s_ref27_Of_p2.eq_1
@[go_sem] def u_ref27_Of_p3 {F K fr m} := @RK_unf F K fr m _ _ s_ref27_Of_p3.eq_1
@[go_sem] def u_ref27_Of_p4 {F K fr m} := @RK_unf F K fr m _ _ s_ref27_Of_p4.eq_1
@[go_sem] def u_ref27_Of_p5 {F K fr m} := @RK_unf F K fr m _ _ s_ref27_Of_p5.eq_1
@[go_sem] def u_ref27_Of_p6 {F K fr m} := @RK_unf F K fr m _ _ s_ref27_Of_p6.eq_1
@[go_sem] def u_ref27_Of_p7 {F K fr m} := @RK_unf F K fr m _ _ s_ref27_Of_p7.eq_1
@[go_sem] def u_ref27_Of_p8 {F K fr m} := @RK_unf F K fr m _ _ s_ref27_Of_p8.eq_1
@[go_sem] def u_ref27_Of_p9 {F K fr m} := @RK_unf F K fr m _ _ s_ref27_Of_p9.eq_1
@[go_sem] def u_ref27_Of_p10 {F K fr m} := @RK_unf F K fr m _ _ s_ref27_Of_p10.eq_1
@[go_sem] def u_ref27_Of_p11 {F K fr m} := @RK_unf F K fr m _ _ s_ref27_Of_p11.eq_1
theorem t_ref27_Of : tb f_ref27_Of = some s_ref27_Of := rfl
@[go_sem] def u_law27_DigestOf_p0 {F K fr m} := @RK_unf F K fr m _ _ s_law27_DigestOf_p0.eq_1
@[go_sem] def u_law27_DigestOf_p1 {F K fr m} := @RK_unf F K fr m _ _ s_law27_DigestOf_p1.eq_1
theorem t_law27_DigestOf : tb f_law27_DigestOf = some s_law27_DigestOf := rfl
end Go.Sh.T
