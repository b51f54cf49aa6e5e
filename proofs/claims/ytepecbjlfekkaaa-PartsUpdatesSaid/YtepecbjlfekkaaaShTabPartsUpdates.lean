import Derived.Test.YtepecbjlfekkaaaShH
set_option linter.all false
set_option linter.unusedVariables false
set_option linter.unusedSimpArgs false
set_option autoImplicit false
set_option linter.all false
set_option maxRecDepth 4096
namespace Go.Sh.T
open Go.Sh
def f_law08_PartsUpdates:FuncId:=10
def f_law06_Both:FuncId:=11
def f_parts_New:FuncId:=12
def f_law08_awake:FuncId:=13
def f_ref08_Of:FuncId:=14
def f_ref04_All:FuncId:=16
def f_ref08_Ground_Stands:FuncId:=18
def f_ref03_Near:FuncId:=24
def f_ref06_May:FuncId:=30
def f_law08_right:FuncId:=31
def f_parts_Parts_Update:FuncId:=34
def f_parts_Parts_First:FuncId:=35
def f_parts_Parts_At:FuncId:=36
def f_parts_Parts_Len:FuncId:=37
def f_parts_Parts_Size:FuncId:=38
def f_ref08_Ground_Labels:FuncId:=39
def f_law07_Does:FuncId:=40
def f_grid_New:FuncId:=41
def f_ref04_New:FuncId:=42
def f_clear_New:FuncId:=43
def f_class_May:FuncId:=44
def f_grid_World_All:FuncId:=45
def f_parts_Parts_label:FuncId:=46
def f_ref06_Stands:FuncId:=47
def f_ref03_May:FuncId:=48
def f_ref03_Has:FuncId:=49
def f_ref03_Meet:FuncId:=50
def f_ref08_Ground_Steps:FuncId:=53
def f_cell_Near:FuncId:=56
def f_ref03_near:FuncId:=60
def f_parts_Parts_is:FuncId:=66
def f_grid_World_Epoch:FuncId:=67
def f_clear_Field_Update:FuncId:=68
def f_slices_Equal_int_int:FuncId:=69
def f_cell_Has:FuncId:=70
def f_grid_World_Raze:FuncId:=71
def f_ref04_Raze:FuncId:=72
def f_grid_World_Place:FuncId:=73
def f_ref04_Place:FuncId:=74
def f_slices_Clone_byte_byte:FuncId:=75
def f_ref04_Check:FuncId:=76
def f_cell_May:FuncId:=77
def f_clear_Field_reckon:FuncId:=78
def f_grid_World_is:FuncId:=79
def f_cell_Cells:FuncId:=80
def f_parts_Parts_stands:FuncId:=81
def f_parts_root:FuncId:=82
def f_ref06_Foot:FuncId:=83
def f_ref03_Within:FuncId:=84
def f_ref04_Terrain:FuncId:=85
def f_ref04_At:FuncId:=86
def f_ref06_On:FuncId:=87
def f_ref03_Last:FuncId:=88
def f_ref03_Step:FuncId:=89
def f_ref03_Sides:FuncId:=90
def f_cell_near:FuncId:=91
def f_class_Stands:FuncId:=93
def f_grid_World_Dirty:FuncId:=96
def f_clear_Field_At:FuncId:=97
def f_cell_last:FuncId:=98
def f_ref04_place:FuncId:=99
def f_grid_World_May:FuncId:=100
def f_ref04_May:FuncId:=101
def f_ref04_MayBe:FuncId:=102
def f_ref04_share:FuncId:=103
def f_cell_side:FuncId:=104
def f_clear_Field_tile:FuncId:=105
def f_cell_Cells_1:FuncId:=106
def f_ref03_Turn:FuncId:=107
def f_class_Foot:FuncId:=108
def f_cell_Within:FuncId:=109
def f_grid_World_Terrain:FuncId:=110
def f_grid_World_At:FuncId:=111
def f_class_On:FuncId:=112
def f_slices_Clone_api_Rect_api_Rect:FuncId:=116
def f_grid_may:FuncId:=117
def pc0:SCode:=(.region false [⟨some 3,.mv (.t 0),none,false⟩,
  ⟨some 4,.bin .geq (.t 3) (.v (.int .i64 (-1048576))),none,false⟩,
  ⟨some 5,.mv (.t 4),none,false⟩,
  ⟨some 6,.mv (.t 0),(some (5,true)),false⟩,
  ⟨some 7,.bin .leq (.t 6) (.v (.int .i64 1048576)),(some (5,true)),false⟩,
  ⟨some 8,.pick (.t 5) (.t 7) (.v (.bool false)),none,false⟩,
  ⟨some 2,.mv (.t 8),none,false⟩])
def s_cell_near:SFn:=⟨1,[.t 2],(.seq (.region false [⟨some 2,.mv (.v (.bool false)),none,false⟩]) (.seq (.kp [2] pc0) .ret))⟩
def pc1:SCode:=(.region false [⟨some 3,.faddr 0 (.t 1),none,false⟩,
  ⟨some 4,.load none (.t 3),none,false⟩,
  ⟨some 5,.call f_cell_near [(.t 4)],none,false⟩,
  ⟨some 6,.mv (.t 5),none,false⟩,
  ⟨some 7,.faddr 1 (.t 1),(some (6,true)),false⟩,
  ⟨some 8,.load none (.t 7),(some (6,true)),false⟩,
  ⟨some 9,.call f_cell_near [(.t 8)],(some (6,true)),false⟩,
  ⟨some 10,.pick (.t 6) (.t 9) (.v (.bool false)),none,false⟩,
  ⟨some 2,.mv (.t 10),none,false⟩])
def s_cell_Near:SFn:=⟨1,[.t 2],(.seq (.region false [⟨some 1,.box true 2 (.t 0),none,false⟩,
  ⟨some 2,.mv (.v (.bool false)),none,false⟩]) (.seq (.kp [2] pc1) .ret))⟩
def pc2:SCode:=(.region false [⟨some 3,.faddr 0 (.t 1),none,false⟩,
  ⟨some 4,.faddr 0 (.t 3),none,false⟩,
  ⟨some 5,.load none (.t 4),none,false⟩,
  ⟨some 6,.faddr 2 (.t 1),none,false⟩,
  ⟨some 7,.load none (.t 6),none,false⟩,
  ⟨some 8,.bin .add (.t 5) (.t 7),none,false⟩,
  ⟨some 9,.bin .sub (.t 8) (.v (.int .i64 1)),none,false⟩,
  ⟨some 10,.faddr 0 (.t 1),none,false⟩,
  ⟨some 11,.faddr 1 (.t 10),none,false⟩,
  ⟨some 12,.load none (.t 11),none,false⟩,
  ⟨some 13,.faddr 3 (.t 1),none,false⟩,
  ⟨some 14,.load none (.t 13),none,false⟩,
  ⟨some 15,.bin .add (.t 12) (.t 14),none,false⟩,
  ⟨some 16,.bin .sub (.t 15) (.v (.int .i64 1)),none,false⟩,
  ⟨some 17,.build [(.int .i64 0),(.int .i64 0)] [(0,1,(.t 9)),(1,1,(.t 16))],none,false⟩,
  ⟨none,.store 2 [] (.t 2) (.t 17),none,false⟩])
def s_cell_last:SFn:=⟨1,[.cell 2 (some 2)],(.seq (.region false [⟨some 1,.box true 4 (.t 0),none,false⟩,
  ⟨some 2,.alloc true [(.int .i64 0),(.int .i64 0)],none,false⟩]) (.seq (.kp [2] pc2) .ret))⟩
def pc3:SCode:=(.region false [⟨some 3,.mv (.t 0),none,false⟩,
  ⟨some 4,.bin .geq (.t 3) (.v (.int .i64 1)),none,false⟩,
  ⟨some 5,.mv (.t 4),none,false⟩,
  ⟨some 6,.mv (.t 0),(some (5,true)),false⟩,
  ⟨some 7,.bin .leq (.t 6) (.v (.int .i64 1048576)),(some (5,true)),false⟩,
  ⟨some 8,.pick (.t 5) (.t 7) (.v (.bool false)),none,false⟩,
  ⟨some 2,.mv (.t 8),none,false⟩])
def s_cell_side:SFn:=⟨1,[.t 2],(.seq (.region false [⟨some 2,.mv (.v (.bool false)),none,false⟩]) (.seq (.kp [2] pc3) .ret))⟩
def pc4:SCode:=(.region false [⟨some 3,.faddr 0 (.t 1),none,false⟩,
  ⟨some 4,.load (some 2) (.t 3),none,false⟩,
  ⟨some 5,.call f_cell_Near [(.t 4)],none,false⟩,
  ⟨some 6,.mv (.t 5),none,false⟩,
  ⟨some 7,.faddr 2 (.t 1),(some (6,true)),false⟩,
  ⟨some 8,.load none (.t 7),(some (6,true)),false⟩,
  ⟨some 9,.call f_cell_side [(.t 8)],(some (6,true)),false⟩,
  ⟨some 10,.pick (.t 6) (.t 9) (.v (.bool false)),none,false⟩,
  ⟨some 11,.mv (.t 10),none,false⟩,
  ⟨some 12,.faddr 3 (.t 1),(some (11,true)),false⟩,
  ⟨some 13,.load none (.t 12),(some (11,true)),false⟩,
  ⟨some 14,.call f_cell_side [(.t 13)],(some (11,true)),false⟩,
  ⟨some 15,.pick (.t 11) (.t 14) (.v (.bool false)),none,false⟩,
  ⟨some 16,.mv (.t 15),none,false⟩,
  ⟨some 17,.load (some 4) (.t 1),(some (16,true)),false⟩,
  ⟨some 18,.call f_cell_last [(.t 17)],(some (16,true)),false⟩,
  ⟨some 19,.call f_cell_Near [(.t 18)],(some (16,true)),false⟩,
  ⟨some 20,.pick (.t 16) (.t 19) (.v (.bool false)),none,false⟩,
  ⟨some 2,.mv (.t 20),none,false⟩])
def s_cell_May:SFn:=⟨1,[.t 2],(.seq (.region false [⟨some 1,.box true 4 (.t 0),none,false⟩,
  ⟨some 2,.mv (.v (.bool false)),none,false⟩]) (.seq (.kp [2] pc4) .ret))⟩
def pc5:SCode:=(.seq (.region false [⟨some 5,.load (some 4) (.t 1),none,false⟩,
  ⟨some 6,.call f_cell_May [(.t 5)],none,false⟩,
  ⟨some 7,.un .not (.t 6),none,false⟩]) (.cond (.t 7) .ret .skip))
def pc6:SCode:=(.kp [0,1,3,9,10,14,15] (.region false [⟨some 13,.faddr 2 (.t 1),none,false⟩,
  ⟨some 14,.load none (.t 13),none,false⟩,
  ⟨some 15,.mv (.v (.int .i64 0)),none,false⟩]))
def pc7:SCode:=(.region false [⟨some 18,.mv (.t 0),none,false⟩,
  ⟨some 19,.faddr 0 (.t 1),none,false⟩,
  ⟨some 20,.faddr 0 (.t 19),none,false⟩,
  ⟨some 21,.load none (.t 20),none,false⟩,
  ⟨some 22,.mv (.t 4),none,false⟩,
  ⟨some 23,.bin .add (.t 21) (.t 22),none,false⟩,
  ⟨some 24,.faddr 0 (.t 1),none,false⟩,
  ⟨some 25,.faddr 1 (.t 24),none,false⟩,
  ⟨some 26,.load none (.t 25),none,false⟩,
  ⟨some 27,.mv (.t 3),none,false⟩,
  ⟨some 28,.bin .add (.t 26) (.t 27),none,false⟩,
  ⟨some 29,.build [(.int .i64 0),(.int .i64 0)] [(0,1,(.t 23)),(1,1,(.t 28))],none,false⟩,
  ⟨some 30,.callv (.t 18) [(.t 29)],none,false⟩,
  ⟨some 31,.un .not (.t 30),none,false⟩])
def pc8:SCode:=(.block 3 (.seq (.region false [⟨some 17,.mv (.t 15),none,false⟩,
  ⟨some 4,.mv (.t 17),none,false⟩]) (.seq (.kp [0,1,3,9,10,14,15,31] pc7) (.cond (.t 31) .ret .skip))))
def pc9:SCode:=(.seq (.kp [0,1,3,9,10,14,15] (.cond (.t 16) .skip (.exit 2))) (.seq (.kp [0,1,3,9,10,14,15] pc8) (.region false [⟨some 32,.bin .add (.t 15) (.v (.int .i64 1)),none,false⟩,
  ⟨some 15,.mv (.t 32),none,false⟩])))
def pc10:SCode:=(.seq (.region false [⟨some 16,.bin .lss (.t 15) (.t 14),none,false⟩]) pc9)
def pc11:SCode:=(.block 1 (.seq (.region false [⟨some 12,.mv (.t 10),none,false⟩,
  ⟨some 3,.mv (.t 12),none,false⟩]) (.seq pc6 (.block 2 (.loop (some [0,1,3,9,10,14,15]) pc10)))))
def pc12:SCode:=(.seq (.kp [0,1,9,10] (.cond (.t 11) .skip (.exit 0))) (.seq (.kp [0,1,9,10] pc11) (.region false [⟨some 33,.bin .add (.t 10) (.v (.int .i64 1)),none,false⟩,
  ⟨some 10,.mv (.t 33),none,false⟩])))
def pc13:SCode:=(.seq (.region false [⟨some 11,.bin .lss (.t 10) (.t 9),none,false⟩]) pc12)
def pc14:SCode:=(.seq (.kp [0,1,9,10] (.region false [⟨some 8,.faddr 3 (.t 1),none,false⟩,
  ⟨some 9,.load none (.t 8),none,false⟩,
  ⟨some 10,.mv (.v (.int .i64 0)),none,false⟩])) (.block 0 (.loop (some [0,1,9,10]) pc13)))
def s_cell_Cells_1:SFn:=⟨2,[],(.seq (.kp [0,1] pc5) pc14)⟩
def pc15:SCode:=(.seq (.region false [⟨some 1,.box false 4 (.t 0),none,false⟩,
  ⟨some 2,.mv (.v .nilf),none,false⟩]) (.seq (.region false [⟨some 3,.mkfn f_cell_Cells_1 [] [(.t 1)],none,false⟩,
  ⟨some 2,.mv (.t 3),none,false⟩]) .ret))
def s_cell_Cells:SFn:=⟨1,[.t 2],pc15⟩
def pc16:SCode:=(.region false [⟨some 3,.mv (.t 0),none,false⟩,
  ⟨some 4,.eq true false [.ptr] (.t 3) (.v .nilp),none,false⟩,
  ⟨some 5,.mv (.t 4),none,false⟩,
  ⟨some 6,.mv (.t 0),(some (5,true)),false⟩,
  ⟨some 7,.nilck (.t 6),(some (5,true)),false⟩,
  ⟨some 8,.faddr 3 (.t 7),(some (5,true)),false⟩,
  ⟨some 9,.load none (.t 8),(some (5,true)),false⟩,
  ⟨some 10,.eq true false [.map] (.t 9) (.v .nilm),(some (5,true)),false⟩,
  ⟨some 11,.pick (.t 5) (.t 10) (.v (.bool false)),none,false⟩,
  ⟨some 2,.mv (.t 11),none,false⟩])
def s_grid_World_is:SFn:=⟨1,[.t 2],(.seq (.region false [⟨some 2,.mv (.v (.bool false)),none,false⟩]) (.seq (.kp [2] pc16) .ret))⟩
def pc17:SCode:=(.cond (.t 5) (.seq (.region false [⟨some 6,.build [(.int .i64 0),(.int .i64 0),(.int .i64 0),(.int .i64 0)] [],none,false⟩,
  ⟨none,.store 4 [] (.t 2) (.t 6),none,false⟩]) .ret) .skip)
def pc18:SCode:=(.region true [⟨some 7,.mv (.t 0),none,true⟩,
  ⟨some 8,.nilck (.t 7),none,true⟩,
  ⟨some 9,.faddr 0 (.t 8),none,true⟩,
  ⟨some 10,.load none (.t 9),none,true⟩,
  ⟨some 11,.mv (.t 0),none,true⟩,
  ⟨some 12,.nilck (.t 11),none,true⟩,
  ⟨some 13,.faddr 1 (.t 12),none,true⟩,
  ⟨some 14,.load none (.t 13),none,true⟩,
  ⟨some 15,.build [(.int .i64 0),(.int .i64 0),(.int .i64 0),(.int .i64 0)] [(2,1,(.t 10)),(3,1,(.t 14))],none,false⟩,
  ⟨none,.store 4 [] (.t 2) (.t 15),none,false⟩])
def pc19:SCode:=(.seq (.kp [0,2] (.seq (.region false [⟨some 3,.mv (.t 0),none,false⟩,
  ⟨some 4,.call f_grid_World_is [(.t 3)],none,false⟩,
  ⟨some 5,.un .not (.t 4),none,false⟩]) pc17)) (.seq (.kp [2] pc18) .ret))
def s_grid_World_All:SFn:=⟨1,[.cell 2 (some 4)],(.seq (.region false [⟨some 2,.alloc true [(.int .i64 0),(.int .i64 0),(.int .i64 0),(.int .i64 0)],none,false⟩]) pc19)⟩
def pc20:SCode:=(.seq (.region false [⟨some 6,.load (some 4) (.t 2),none,false⟩,
  ⟨some 7,.call f_cell_May [(.t 6)],none,false⟩,
  ⟨some 8,.un .not (.t 7),none,false⟩]) (.cond (.t 8) (.seq (.region false [⟨some 4,.mv (.v (.bool false)),none,false⟩]) .ret) .skip))
def pc21:SCode:=(.region false [⟨some 9,.load (some 4) (.t 2),none,false⟩,
  ⟨some 10,.call f_cell_last [(.t 9)],none,false⟩,
  ⟨some 5,.alloc true [(.int .i64 0),(.int .i64 0)],none,false⟩,
  ⟨none,.store 2 [] (.t 5) (.t 10),none,false⟩])
def pc22:SCode:=(.region false [⟨some 11,.faddr 0 (.t 3),none,false⟩,
  ⟨some 12,.load none (.t 11),none,false⟩,
  ⟨some 13,.faddr 0 (.t 2),none,false⟩,
  ⟨some 14,.faddr 0 (.t 13),none,false⟩,
  ⟨some 15,.load none (.t 14),none,false⟩,
  ⟨some 16,.bin .geq (.t 12) (.t 15),none,false⟩,
  ⟨some 17,.mv (.t 16),none,false⟩,
  ⟨some 18,.faddr 0 (.t 3),(some (17,true)),false⟩,
  ⟨some 19,.load none (.t 18),(some (17,true)),false⟩,
  ⟨some 20,.faddr 0 (.t 5),(some (17,true)),false⟩,
  ⟨some 21,.load none (.t 20),(some (17,true)),false⟩,
  ⟨some 22,.bin .leq (.t 19) (.t 21),(some (17,true)),false⟩,
  ⟨some 23,.pick (.t 17) (.t 22) (.v (.bool false)),none,false⟩,
  ⟨some 24,.mv (.t 23),none,false⟩,
  ⟨some 25,.faddr 1 (.t 3),(some (24,true)),false⟩,
  ⟨some 26,.load none (.t 25),(some (24,true)),false⟩,
  ⟨some 27,.faddr 0 (.t 2),(some (24,true)),false⟩,
  ⟨some 28,.faddr 1 (.t 27),(some (24,true)),false⟩,
  ⟨some 29,.load none (.t 28),(some (24,true)),false⟩,
  ⟨some 30,.bin .geq (.t 26) (.t 29),(some (24,true)),false⟩,
  ⟨some 31,.pick (.t 24) (.t 30) (.v (.bool false)),none,false⟩,
  ⟨some 32,.mv (.t 31),none,false⟩,
  ⟨some 33,.faddr 1 (.t 3),(some (32,true)),false⟩,
  ⟨some 34,.load none (.t 33),(some (32,true)),false⟩,
  ⟨some 35,.faddr 1 (.t 5),(some (32,true)),false⟩,
  ⟨some 36,.load none (.t 35),(some (32,true)),false⟩,
  ⟨some 37,.bin .leq (.t 34) (.t 36),(some (32,true)),false⟩,
  ⟨some 38,.pick (.t 32) (.t 37) (.v (.bool false)),none,false⟩,
  ⟨some 4,.mv (.t 38),none,false⟩])
def pc23:SCode:=(.seq (.region false [⟨some 2,.box true 4 (.t 0),none,false⟩,
  ⟨some 3,.box true 2 (.t 1),none,false⟩,
  ⟨some 4,.mv (.v (.bool false)),none,false⟩]) (.seq (.kp [2,3] pc20) (.seq pc21 (.seq (.kp [4] pc22) .ret))))
def s_cell_Has:SFn:=⟨2,[.t 4],pc23⟩
def pc24:SCode:=(.region true [⟨some 5,.load (some 4) (.t 2),none,false⟩,
  ⟨some 6,.call f_cell_May [(.t 5)],none,false⟩,
  ⟨some 7,.mv (.t 6),none,false⟩,
  ⟨some 8,.load (some 4) (.t 3),(some (7,true)),true⟩,
  ⟨some 9,.faddr 0 (.t 2),(some (7,true)),true⟩,
  ⟨some 10,.load (some 2) (.t 9),(some (7,true)),true⟩,
  ⟨some 11,.call f_cell_Has [(.t 8),(.t 10)],(some (7,true)),false⟩,
  ⟨some 12,.pick (.t 7) (.t 11) (.v (.bool false)),none,false⟩,
  ⟨some 13,.mv (.t 12),none,false⟩,
  ⟨some 14,.load (some 4) (.t 3),(some (13,true)),true⟩,
  ⟨some 15,.load (some 4) (.t 2),(some (13,true)),true⟩,
  ⟨some 16,.call f_cell_last [(.t 15)],(some (13,true)),true⟩,
  ⟨some 17,.call f_cell_Has [(.t 14),(.t 16)],(some (13,true)),false⟩,
  ⟨some 18,.pick (.t 13) (.t 17) (.v (.bool false)),none,false⟩,
  ⟨some 4,.mv (.t 18),none,false⟩])
def pc25:SCode:=(.seq (.region false [⟨some 2,.box true 4 (.t 0),none,false⟩,
  ⟨some 3,.box true 4 (.t 1),none,false⟩,
  ⟨some 4,.mv (.v (.bool false)),none,false⟩]) (.seq (.kp [4] pc24) .ret))
def s_cell_Within:SFn:=⟨2,[.t 4],pc25⟩
def pc26:SCode:=(.region false [⟨some 5,.faddr 0 (.t 2),none,false⟩,
  ⟨some 6,.load none (.t 5),none,false⟩,
  ⟨some 7,.bin .geq (.t 6) (.v (.int .i64 1)),none,false⟩,
  ⟨some 8,.mv (.t 7),none,false⟩,
  ⟨some 9,.faddr 0 (.t 2),(some (8,true)),false⟩,
  ⟨some 10,.load none (.t 9),(some (8,true)),false⟩,
  ⟨some 11,.bin .leq (.t 10) (.v (.int .i64 2147483647)),(some (8,true)),false⟩,
  ⟨some 12,.pick (.t 8) (.t 11) (.v (.bool false)),none,false⟩,
  ⟨some 13,.mv (.t 12),none,false⟩,
  ⟨some 14,.faddr 1 (.t 2),(some (13,true)),false⟩,
  ⟨some 15,.faddr 2 (.t 14),(some (13,true)),false⟩,
  ⟨some 16,.load none (.t 15),(some (13,true)),false⟩,
  ⟨some 17,.bin .leq (.t 16) (.v (.int .i64 8)),(some (13,true)),false⟩,
  ⟨some 18,.pick (.t 13) (.t 17) (.v (.bool false)),none,false⟩,
  ⟨some 19,.mv (.t 18),none,false⟩,
  ⟨some 20,.faddr 1 (.t 2),(some (19,true)),false⟩,
  ⟨some 21,.faddr 3 (.t 20),(some (19,true)),false⟩,
  ⟨some 22,.load none (.t 21),(some (19,true)),false⟩,
  ⟨some 23,.bin .leq (.t 22) (.v (.int .i64 8)),(some (19,true)),false⟩,
  ⟨some 24,.pick (.t 19) (.t 23) (.v (.bool false)),none,false⟩,
  ⟨some 25,.mv (.t 24),none,false⟩,
  ⟨some 26,.faddr 1 (.t 2),(some (25,true)),false⟩,
  ⟨some 27,.load (some 4) (.t 26),(some (25,true)),false⟩,
  ⟨some 28,.load (some 4) (.t 3),(some (25,true)),false⟩,
  ⟨some 29,.call f_cell_Within [(.t 27),(.t 28)],(some (25,true)),false⟩,
  ⟨some 30,.pick (.t 25) (.t 29) (.v (.bool false)),none,false⟩,
  ⟨some 4,.mv (.t 30),none,false⟩])
def pc27:SCode:=(.seq (.region false [⟨some 2,.box true 5 (.t 0),none,false⟩,
  ⟨some 3,.box true 4 (.t 1),none,false⟩,
  ⟨some 4,.mv (.v (.bool false)),none,false⟩]) (.seq (.kp [4] pc26) .ret))
def s_grid_may:SFn:=⟨2,[.t 4],pc27⟩
def pc28:SCode:=(.region true [⟨some 10,.load none (.t 2),none,false⟩,
  ⟨some 11,.call f_grid_World_is [(.t 10)],none,false⟩,
  ⟨some 12,.un .not (.t 11),none,false⟩,
  ⟨some 13,.mv (.t 12),none,false⟩,
  ⟨some 14,.load (some 5) (.t 3),(some (13,false)),true⟩,
  ⟨some 15,.load none (.t 2),(some (13,false)),true⟩,
  ⟨some 16,.call f_grid_World_All [(.t 15)],(some (13,false)),true⟩,
  ⟨some 17,.call f_grid_may [(.t 14),(.t 16)],(some (13,false)),false⟩,
  ⟨some 18,.un .not (.t 17),(some (13,false)),false⟩,
  ⟨some 19,.pick (.t 13) (.v (.bool true)) (.t 18),none,false⟩])
def pc29:SCode:=(.region true [⟨some 21,.load none (.t 2),none,true⟩,
  ⟨some 22,.nilck (.t 21),none,true⟩,
  ⟨some 23,.faddr 3 (.t 22),none,true⟩,
  ⟨some 24,.load none (.t 23),none,true⟩,
  ⟨some 25,.faddr 0 (.t 3),none,true⟩,
  ⟨some 26,.load none (.t 25),none,true⟩,
  ⟨some 27,.lookup false [.int] (.agg [(.int .i64 0),(.int .i64 0),(.int .i64 0),(.int .i64 0)]) true (.t 24) (.t 26),none,false⟩,
  ⟨some 20,.mv (.t 27),none,false⟩,
  ⟨some 28,.ext (.t 20) 0,none,false⟩,
  ⟨some 29,.ext (.t 20) 1,none,true⟩,
  ⟨some 5,.alloc true [(.int .i64 0),(.int .i64 0),(.int .i64 0),(.int .i64 0)],none,true⟩,
  ⟨none,.store 4 [] (.t 5) (.t 28),none,false⟩,
  ⟨some 6,.mv (.t 29),none,false⟩])
def pc30:SCode:=(.seq (.kp [2,3,4,6] pc29) (.seq (.region false [⟨some 30,.mv (.t 6),none,false⟩]) (.cond (.t 30) (.seq (.region false [⟨none,.store 1 [] (.t 4) (.v (.int .i64 8)),none,false⟩]) .ret) .skip)))
def pc31:SCode:=(.region false [⟨some 31,.load none (.t 2),none,false⟩,
  ⟨some 32,.nilck (.t 31),none,false⟩,
  ⟨some 33,.faddr 3 (.t 32),none,false⟩,
  ⟨some 34,.load none (.t 33),none,false⟩,
  ⟨some 35,.mlen (.t 34),none,false⟩,
  ⟨some 36,.bin .geq (.t 35) (.v (.int .i64 256)),none,false⟩])
def pc32:SCode:=(.region false [⟨some 7,.alloc true [(.int .i64 0),(.int .i64 0)],none,false⟩,
  ⟨none,.store 2 [] (.t 7) (.t 40),none,false⟩])
def pc33:SCode:=(.region true [⟨some 42,.load none (.t 2),none,true⟩,
  ⟨some 43,.nilck (.t 42),none,true⟩,
  ⟨some 44,.faddr 4 (.t 43),none,true⟩,
  ⟨some 45,.load none (.t 44),none,true⟩,
  ⟨some 46,.load (some 2) (.t 7),none,true⟩,
  ⟨some 47,.lookup true [.int,.int] (.int .i64 0) true (.t 45) (.t 46),none,false⟩,
  ⟨some 41,.mv (.t 47),none,false⟩,
  ⟨some 48,.ext (.t 41) 0,none,false⟩,
  ⟨some 49,.ext (.t 41) 1,none,false⟩,
  ⟨some 8,.mv (.t 48),none,false⟩,
  ⟨some 9,.mv (.t 49),none,false⟩])
def pc34:SCode:=(.seq (.kp [4,9] pc33) (.seq (.region false [⟨some 50,.mv (.t 9),none,false⟩]) (.cond (.t 50) (.seq (.region false [⟨none,.store 1 [] (.t 4) (.v (.int .i64 6)),none,false⟩]) .ret) .skip)))
def pc35:SCode:=(.block 1 pc34)
def pc36:SCode:=(.seq (.kp [2,4,39] (.region false [⟨some 37,.faddr 1 (.t 3),none,false⟩,
  ⟨some 38,.load (some 4) (.t 37),none,false⟩,
  ⟨some 39,.call f_cell_Cells [(.t 38)],none,false⟩])) (.block 0 (.rangef (.t 39) [40] pc32 pc35)))
def pc37:SCode:=(.seq (.kp [2,3,4] (.seq (.kp [2,3,4,36] pc31) (.cond (.t 36) (.seq (.region false [⟨none,.store 1 [] (.t 4) (.v (.int .i64 2)),none,false⟩]) .ret) .skip))) (.seq (.kp [4] pc36) (.seq (.region false [⟨none,.store 1 [] (.t 4) (.v (.int .i64 0)),none,false⟩]) .ret)))
def pc38:SCode:=(.seq (.kp [2,3,4] (.seq (.kp [2,3,4,19] pc28) (.cond (.t 19) (.seq (.region false [⟨none,.store 1 [] (.t 4) (.v (.int .i64 1)),none,false⟩]) .ret) .skip))) (.seq (.kp [2,3,4] pc30) pc37))
def s_grid_World_May:SFn:=⟨2,[.cell 4 none],(.seq (.region false [⟨some 2,.box true 1 (.t 0),none,false⟩,
  ⟨some 3,.box true 5 (.t 1),none,false⟩,
  ⟨some 4,.alloc true [(.int .i64 0)],none,false⟩]) pc38)⟩
def pc39:SCode:=(.region false [⟨some 7,.load none (.t 2),none,false⟩,
  ⟨some 8,.load (some 5) (.t 3),none,false⟩,
  ⟨some 9,.call f_grid_World_May [(.t 7),(.t 8)],none,false⟩,
  ⟨some 5,.mv (.t 9),none,false⟩])
def pc40:SCode:=(.seq (.region false [⟨some 10,.mv (.t 5),none,false⟩,
  ⟨some 11,.bin .neq (.t 10) (.v (.int .i64 0)),none,false⟩]) (.cond (.t 11) (.seq (.region false [⟨some 12,.mv (.t 5),none,false⟩,
  ⟨some 4,.mv (.t 12),none,false⟩]) .ret) .skip))
def pc41:SCode:=(.region true [⟨some 13,.load none (.t 2),none,true⟩,
  ⟨some 14,.nilck (.t 13),none,true⟩,
  ⟨some 15,.faddr 3 (.t 14),none,true⟩,
  ⟨some 16,.load none (.t 15),none,true⟩,
  ⟨some 17,.faddr 0 (.t 3),none,true⟩,
  ⟨some 18,.load none (.t 17),none,true⟩,
  ⟨some 19,.faddr 1 (.t 3),none,true⟩,
  ⟨some 20,.load (some 4) (.t 19),none,true⟩,
  ⟨none,.mapset false [.int] (.t 16) (.t 18) (.t 20),none,false⟩])
def pc42:SCode:=(.region false [⟨some 6,.alloc true [(.int .i64 0),(.int .i64 0)],none,false⟩,
  ⟨none,.store 2 [] (.t 6) (.t 24),none,false⟩])
def pc43:SCode:=(.region true [⟨some 25,.load none (.t 2),none,true⟩,
  ⟨some 26,.nilck (.t 25),none,true⟩,
  ⟨some 27,.faddr 4 (.t 26),none,true⟩,
  ⟨some 28,.load none (.t 27),none,true⟩,
  ⟨some 29,.load (some 2) (.t 6),none,true⟩,
  ⟨some 30,.faddr 0 (.t 3),none,true⟩,
  ⟨some 31,.load none (.t 30),none,true⟩,
  ⟨none,.mapset true [.int,.int] (.t 28) (.t 29) (.t 31),none,false⟩])
def pc44:SCode:=(.block 1 pc43)
def pc45:SCode:=(.seq (.kp [2,3,23] (.region false [⟨some 21,.faddr 1 (.t 3),none,false⟩,
  ⟨some 22,.load (some 4) (.t 21),none,false⟩,
  ⟨some 23,.call f_cell_Cells [(.t 22)],none,false⟩])) (.block 0 (.rangef (.t 23) [24] pc42 pc44)))
def pc46:SCode:=(.region true [⟨some 32,.load none (.t 2),none,true⟩,
  ⟨some 33,.load none (.t 2),none,true⟩,
  ⟨some 34,.nilck (.t 33),none,true⟩,
  ⟨some 35,.faddr 5 (.t 34),none,true⟩,
  ⟨some 36,.load none (.t 35),none,true⟩,
  ⟨some 37,.faddr 1 (.t 3),none,true⟩,
  ⟨some 38,.load (some 4) (.t 37),none,true⟩,
  ⟨some 39,.bslice [(.int .i64 0),(.int .i64 0),(.int .i64 0),(.int .i64 0)] 1 4 [(0,4,(.t 38))],none,true⟩,
  ⟨some 40,.append 4 32 [(.int .i64 0),(.int .i64 0),(.int .i64 0),(.int .i64 0)] [(.t 2)] (.t 36) (.t 39),none,false⟩,
  ⟨some 41,.nilck (.t 32),none,false⟩,
  ⟨some 42,.faddr 5 (.t 41),none,false⟩,
  ⟨none,.store 1 [] (.t 42) (.t 40),none,false⟩])
def pc47:SCode:=(.seq (.kp [2,3] (.seq pc39 pc40)) (.seq (.kp [2,3] pc41) (.seq (.kp [2,3] pc45) (.seq (.kp [] pc46) (.seq (.region false [⟨some 4,.mv (.v (.int .i64 0)),none,false⟩]) .ret)))))
def s_grid_World_Place:SFn:=⟨2,[.t 4],(.seq (.region false [⟨some 2,.box true 1 (.t 0),none,false⟩,
  ⟨some 3,.box true 5 (.t 1),none,false⟩,
  ⟨some 4,.mv (.v (.int .i64 0)),none,false⟩]) pc47)⟩
def pc48:SCode:=(.seq (.region false [⟨some 3,.mv (.t 0),none,false⟩,
  ⟨some 4,.eq false false [.slice] (.t 3) (.v .nils),none,false⟩]) (.cond (.t 4) (.seq (.region false [⟨some 2,.mv (.v .nils),none,false⟩]) .ret) .skip))
def pc49:SCode:=(.region false [⟨some 5,.bslice [] 0 1 [],none,false⟩,
  ⟨some 6,.mv (.t 0),none,false⟩,
  ⟨some 7,.append 1 1 [(.int .u8 0)] [] (.t 5) (.t 6),none,false⟩,
  ⟨some 2,.mv (.t 7),none,false⟩])
def s_slices_Clone_byte_byte:SFn:=⟨1,[.t 2],(.seq (.region false [⟨some 2,.mv (.v .nils),none,false⟩]) (.seq (.kp [0] pc48) (.seq pc49 .ret)))⟩
def pc50:SCode:=(.region false [⟨some 10,.faddr 0 (.t 1),none,false⟩,
  ⟨some 11,.load none (.t 10),none,false⟩,
  ⟨some 12,.bin .lss (.t 11) (.v (.int .i64 1)),none,false⟩,
  ⟨some 13,.mv (.t 12),none,false⟩,
  ⟨some 14,.faddr 0 (.t 1),(some (13,false)),false⟩,
  ⟨some 15,.load none (.t 14),(some (13,false)),false⟩,
  ⟨some 16,.bin .gtr (.t 15) (.v (.int .i64 128)),(some (13,false)),false⟩,
  ⟨some 17,.pick (.t 13) (.v (.bool true)) (.t 16),none,false⟩,
  ⟨some 18,.mv (.t 17),none,false⟩,
  ⟨some 19,.faddr 1 (.t 1),(some (18,false)),false⟩,
  ⟨some 20,.load none (.t 19),(some (18,false)),false⟩,
  ⟨some 21,.bin .lss (.t 20) (.v (.int .i64 1)),(some (18,false)),false⟩,
  ⟨some 22,.pick (.t 18) (.v (.bool true)) (.t 21),none,false⟩,
  ⟨some 23,.mv (.t 22),none,false⟩,
  ⟨some 24,.faddr 1 (.t 1),(some (23,false)),false⟩,
  ⟨some 25,.load none (.t 24),(some (23,false)),false⟩,
  ⟨some 26,.bin .gtr (.t 25) (.v (.int .i64 128)),(some (23,false)),false⟩,
  ⟨some 27,.pick (.t 23) (.v (.bool true)) (.t 26),none,false⟩,
  ⟨some 28,.mv (.t 27),none,false⟩,
  ⟨some 29,.faddr 2 (.t 1),(some (28,false)),false⟩,
  ⟨some 30,.load none (.t 29),(some (28,false)),false⟩,
  ⟨some 31,.len (.t 30),(some (28,false)),false⟩,
  ⟨some 32,.faddr 0 (.t 1),(some (28,false)),false⟩,
  ⟨some 33,.load none (.t 32),(some (28,false)),false⟩,
  ⟨some 34,.faddr 1 (.t 1),(some (28,false)),false⟩,
  ⟨some 35,.load none (.t 34),(some (28,false)),false⟩,
  ⟨some 36,.bin .mul (.t 33) (.t 35),(some (28,false)),false⟩,
  ⟨some 37,.bin .neq (.t 31) (.t 36),(some (28,false)),false⟩,
  ⟨some 38,.pick (.t 28) (.v (.bool true)) (.t 37),none,false⟩])
def pc51:SCode:=(.region false [⟨some 39,.faddr 2 (.t 1),none,false⟩,
  ⟨some 40,.load none (.t 39),none,false⟩,
  ⟨some 41,.len (.t 40),none,false⟩,
  ⟨some 42,.mv (.v (.int .i64 0)),none,false⟩])
def pc52:SCode:=(.seq (.region false [⟨some 46,.mv (.t 5),none,false⟩,
  ⟨some 47,.bin .geq (.t 46) (.v (.int .u8 4)),none,false⟩]) (.cond (.t 47) (.seq (.region false [⟨some 2,.mv (.v .nilp),none,false⟩,
  ⟨some 3,.mv (.v (.int .i64 1)),none,false⟩]) .ret) .skip))
def pc53:SCode:=(.kp [1,40,41,42] (.block 1 (.seq (.region false [⟨some 44,.iaddr 1 (.t 40) (.t 42),none,false⟩,
  ⟨some 45,.load none (.t 44),none,false⟩,
  ⟨some 5,.mv (.t 45),none,false⟩]) pc52)))
def pc54:SCode:=(.seq (.kp [1,40,41,42] (.cond (.t 43) .skip (.exit 0))) (.seq pc53 (.region false [⟨some 48,.bin .add (.t 42) (.v (.int .i64 1)),none,false⟩,
  ⟨some 42,.mv (.t 48),none,false⟩])))
def pc55:SCode:=(.seq (.region false [⟨some 43,.bin .lss (.t 42) (.t 41),none,false⟩]) pc54)
def pc56:SCode:=(.region true [⟨some 49,.faddr 0 (.t 1),none,true⟩,
  ⟨some 50,.load none (.t 49),none,true⟩,
  ⟨some 51,.faddr 1 (.t 1),none,true⟩,
  ⟨some 52,.load none (.t 51),none,true⟩,
  ⟨some 53,.faddr 2 (.t 1),none,true⟩,
  ⟨some 54,.load none (.t 53),none,true⟩,
  ⟨some 55,.call f_slices_Clone_byte_byte [(.t 54)],none,true⟩,
  ⟨some 56,.mkmap,none,true⟩,
  ⟨some 57,.mkmap,none,true⟩,
  ⟨some 58,.build [(.int .i64 0),(.int .i64 0),.nils,.nilm,.nilm,.nils] [(0,1,(.t 50)),(1,1,(.t 52)),(2,1,(.t 55)),(3,1,(.t 56)),(4,1,(.t 57)),(5,1,(.v .nils))],none,false⟩,
  ⟨some 59,.box false 6 (.t 58),none,false⟩,
  ⟨some 6,.mv (.t 59),none,false⟩])
def pc57:SCode:=(.region false [⟨some 60,.faddr 3 (.t 1),none,false⟩,
  ⟨some 61,.load none (.t 60),none,false⟩,
  ⟨some 62,.len (.t 61),none,false⟩,
  ⟨some 63,.mv (.v (.int .i64 0)),none,false⟩])
def pc58:SCode:=(.region false [⟨some 65,.iaddr 5 (.t 61) (.t 63),none,false⟩,
  ⟨some 66,.load (some 5) (.t 65),none,false⟩,
  ⟨some 9,.alloc true [(.int .i64 0),(.int .i64 0),(.int .i64 0),(.int .i64 0),(.int .i64 0)],none,false⟩,
  ⟨none,.store 5 [] (.t 9) (.t 66),none,false⟩])
def pc59:SCode:=(.region false [⟨some 67,.faddr 0 (.t 9),none,false⟩,
  ⟨some 68,.load none (.t 67),none,false⟩,
  ⟨some 69,.mv (.t 7),none,false⟩,
  ⟨some 70,.bin .leq (.t 68) (.t 69),none,false⟩,
  ⟨some 71,.mv (.t 70),none,false⟩,
  ⟨some 72,.mv (.t 6),(some (71,false)),false⟩,
  ⟨some 73,.load (some 5) (.t 9),(some (71,false)),false⟩,
  ⟨some 74,.call f_grid_World_Place [(.t 72),(.t 73)],(some (71,false)),false⟩,
  ⟨some 75,.bin .neq (.t 74) (.v (.int .i64 0)),(some (71,false)),false⟩,
  ⟨some 76,.pick (.t 71) (.v (.bool true)) (.t 75),none,false⟩])
def pc60:SCode:=(.seq (.kp [6,9,61,62,63,76] pc59) (.cond (.t 76) (.seq (.region false [⟨some 2,.mv (.v .nilp),none,false⟩,
  ⟨some 3,.mv (.v (.int .i64 1)),none,false⟩]) .ret) .skip))
def pc61:SCode:=(.seq (.kp [6,9,61,62,63] pc60) (.region false [⟨some 77,.faddr 0 (.t 9),none,false⟩,
  ⟨some 78,.load none (.t 77),none,false⟩,
  ⟨some 7,.mv (.t 78),none,false⟩]))
def pc62:SCode:=(.seq (.kp [6,7,61,62,63] (.block 3 (.seq pc58 pc61))) (.region false [⟨some 79,.bin .add (.t 63) (.v (.int .i64 1)),none,false⟩,
  ⟨some 63,.mv (.t 79),none,false⟩]))
def pc63:SCode:=(.seq (.region false [⟨some 64,.bin .lss (.t 63) (.t 62),none,false⟩]) (.seq (.kp [6,7,61,62,63] (.cond (.t 64) .skip (.exit 2))) pc62))
def pc64:SCode:=(.region false [⟨some 80,.mv (.t 6),none,false⟩,
  ⟨some 81,.nilck (.t 80),none,false⟩,
  ⟨some 82,.faddr 5 (.t 81),none,false⟩,
  ⟨none,.store 1 [] (.t 82) (.v .nils),none,false⟩])
def pc65:SCode:=(.seq (.kp [6] (.seq (.kp [6,7,61,62,63] pc57) (.block 2 (.loop (some [6,7,61,62,63]) pc63)))) (.seq pc64 (.seq (.region false [⟨some 83,.mv (.t 6),none,false⟩,
  ⟨some 2,.mv (.t 83),none,false⟩,
  ⟨some 3,.mv (.v (.int .i64 0)),none,false⟩]) .ret)))
def pc66:SCode:=(.seq (.kp [1] (.seq (.kp [1,40,41,42] pc51) (.block 0 (.loop (some [1,40,41,42]) pc55)))) (.seq (.kp [1,6] pc56) (.seq (.region false [⟨some 7,.mv (.v (.int .i64 0)),none,false⟩]) pc65)))
def pc67:SCode:=(.seq (.kp [1] (.seq (.kp [1,38] pc50) (.cond (.t 38) (.seq (.region false [⟨some 2,.mv (.v .nilp),none,false⟩,
  ⟨some 3,.mv (.v (.int .i64 1)),none,false⟩]) .ret) .skip))) pc66)
def s_grid_New:SFn:=⟨1,[.t 2,.t 3],(.seq (.region false [⟨some 1,.box true 4 (.t 0),none,false⟩,
  ⟨some 2,.mv (.v .nilp),none,false⟩,
  ⟨some 3,.mv (.v (.int .i64 0)),none,false⟩]) pc67)⟩
def pc68:SCode:=(.region false [⟨some 3,.faddr 0 (.t 1),none,false⟩,
  ⟨some 4,.faddr 0 (.t 3),none,false⟩,
  ⟨some 5,.load none (.t 4),none,false⟩,
  ⟨some 6,.faddr 2 (.t 1),none,false⟩,
  ⟨some 7,.load none (.t 6),none,false⟩,
  ⟨some 8,.bin .add (.t 5) (.t 7),none,false⟩,
  ⟨some 9,.bin .sub (.t 8) (.v (.int .i64 1)),none,false⟩,
  ⟨some 10,.faddr 0 (.t 1),none,false⟩,
  ⟨some 11,.faddr 1 (.t 10),none,false⟩,
  ⟨some 12,.load none (.t 11),none,false⟩,
  ⟨some 13,.faddr 3 (.t 1),none,false⟩,
  ⟨some 14,.load none (.t 13),none,false⟩,
  ⟨some 15,.bin .add (.t 12) (.t 14),none,false⟩,
  ⟨some 16,.bin .sub (.t 15) (.v (.int .i64 1)),none,false⟩,
  ⟨some 17,.build [(.int .i64 0),(.int .i64 0)] [(0,1,(.t 9)),(1,1,(.t 16))],none,false⟩,
  ⟨none,.store 2 [] (.t 2) (.t 17),none,false⟩])
def s_ref03_Last:SFn:=⟨1,[.cell 2 (some 2)],(.seq (.region false [⟨some 1,.box true 4 (.t 0),none,false⟩,
  ⟨some 2,.alloc true [(.int .i64 0),(.int .i64 0)],none,false⟩]) (.seq (.kp [2] pc68) .ret))⟩
def pc69:SCode:=(.region false [⟨some 3,.mv (.t 0),none,false⟩,
  ⟨some 4,.bin .geq (.t 3) (.v (.int .i64 (-1048576))),none,false⟩,
  ⟨some 5,.mv (.t 4),none,false⟩,
  ⟨some 6,.mv (.t 0),(some (5,true)),false⟩,
  ⟨some 7,.bin .leq (.t 6) (.v (.int .i64 1048576)),(some (5,true)),false⟩,
  ⟨some 8,.pick (.t 5) (.t 7) (.v (.bool false)),none,false⟩,
  ⟨some 2,.mv (.t 8),none,false⟩])
def s_ref03_near:SFn:=⟨1,[.t 2],(.seq (.region false [⟨some 2,.mv (.v (.bool false)),none,false⟩]) (.seq (.kp [2] pc69) .ret))⟩
def pc70:SCode:=(.region false [⟨some 3,.faddr 0 (.t 1),none,false⟩,
  ⟨some 4,.load none (.t 3),none,false⟩,
  ⟨some 5,.call f_ref03_near [(.t 4)],none,false⟩,
  ⟨some 6,.mv (.t 5),none,false⟩,
  ⟨some 7,.faddr 1 (.t 1),(some (6,true)),false⟩,
  ⟨some 8,.load none (.t 7),(some (6,true)),false⟩,
  ⟨some 9,.call f_ref03_near [(.t 8)],(some (6,true)),false⟩,
  ⟨some 10,.pick (.t 6) (.t 9) (.v (.bool false)),none,false⟩,
  ⟨some 2,.mv (.t 10),none,false⟩])
def s_ref03_Near:SFn:=⟨1,[.t 2],(.seq (.region false [⟨some 1,.box true 2 (.t 0),none,false⟩,
  ⟨some 2,.mv (.v (.bool false)),none,false⟩]) (.seq (.kp [2] pc70) .ret))⟩
def pc71:SCode:=(.region false [⟨some 3,.faddr 0 (.t 1),none,false⟩,
  ⟨some 4,.load (some 2) (.t 3),none,false⟩,
  ⟨some 5,.call f_ref03_Near [(.t 4)],none,false⟩,
  ⟨some 6,.mv (.t 5),none,false⟩,
  ⟨some 7,.faddr 2 (.t 1),(some (6,true)),false⟩,
  ⟨some 8,.load none (.t 7),(some (6,true)),false⟩,
  ⟨some 9,.bin .geq (.t 8) (.v (.int .i64 1)),(some (6,true)),false⟩,
  ⟨some 10,.pick (.t 6) (.t 9) (.v (.bool false)),none,false⟩,
  ⟨some 11,.mv (.t 10),none,false⟩,
  ⟨some 12,.faddr 2 (.t 1),(some (11,true)),false⟩,
  ⟨some 13,.load none (.t 12),(some (11,true)),false⟩,
  ⟨some 14,.bin .leq (.t 13) (.v (.int .i64 1048576)),(some (11,true)),false⟩,
  ⟨some 15,.pick (.t 11) (.t 14) (.v (.bool false)),none,false⟩,
  ⟨some 16,.mv (.t 15),none,false⟩,
  ⟨some 17,.faddr 3 (.t 1),(some (16,true)),false⟩,
  ⟨some 18,.load none (.t 17),(some (16,true)),false⟩,
  ⟨some 19,.bin .geq (.t 18) (.v (.int .i64 1)),(some (16,true)),false⟩,
  ⟨some 20,.pick (.t 16) (.t 19) (.v (.bool false)),none,false⟩,
  ⟨some 21,.mv (.t 20),none,false⟩,
  ⟨some 22,.faddr 3 (.t 1),(some (21,true)),false⟩,
  ⟨some 23,.load none (.t 22),(some (21,true)),false⟩,
  ⟨some 24,.bin .leq (.t 23) (.v (.int .i64 1048576)),(some (21,true)),false⟩,
  ⟨some 25,.pick (.t 21) (.t 24) (.v (.bool false)),none,false⟩,
  ⟨some 26,.mv (.t 25),none,false⟩,
  ⟨some 27,.load (some 4) (.t 1),(some (26,true)),false⟩,
  ⟨some 28,.call f_ref03_Last [(.t 27)],(some (26,true)),false⟩,
  ⟨some 29,.call f_ref03_Near [(.t 28)],(some (26,true)),false⟩,
  ⟨some 30,.pick (.t 26) (.t 29) (.v (.bool false)),none,false⟩,
  ⟨some 2,.mv (.t 30),none,false⟩])
def s_ref03_May:SFn:=⟨1,[.t 2],(.seq (.region false [⟨some 1,.box true 4 (.t 0),none,false⟩,
  ⟨some 2,.mv (.v (.bool false)),none,false⟩]) (.seq (.kp [2] pc71) .ret))⟩
def pc72:SCode:=(.region true [⟨some 5,.load (some 4) (.t 2),none,false⟩,
  ⟨some 6,.call f_ref03_May [(.t 5)],none,false⟩,
  ⟨some 7,.mv (.t 6),none,false⟩,
  ⟨some 8,.faddr 0 (.t 3),(some (7,true)),true⟩,
  ⟨some 9,.load none (.t 8),(some (7,true)),true⟩,
  ⟨some 10,.faddr 0 (.t 2),(some (7,true)),true⟩,
  ⟨some 11,.faddr 0 (.t 10),(some (7,true)),true⟩,
  ⟨some 12,.load none (.t 11),(some (7,true)),true⟩,
  ⟨some 13,.bin .geq (.t 9) (.t 12),(some (7,true)),false⟩,
  ⟨some 14,.pick (.t 7) (.t 13) (.v (.bool false)),none,false⟩,
  ⟨some 15,.mv (.t 14),none,false⟩,
  ⟨some 16,.faddr 1 (.t 3),(some (15,true)),true⟩,
  ⟨some 17,.load none (.t 16),(some (15,true)),true⟩,
  ⟨some 18,.faddr 0 (.t 2),(some (15,true)),true⟩,
  ⟨some 19,.faddr 1 (.t 18),(some (15,true)),true⟩,
  ⟨some 20,.load none (.t 19),(some (15,true)),true⟩,
  ⟨some 21,.bin .geq (.t 17) (.t 20),(some (15,true)),false⟩,
  ⟨some 22,.pick (.t 15) (.t 21) (.v (.bool false)),none,false⟩,
  ⟨some 23,.mv (.t 22),none,false⟩,
  ⟨some 24,.faddr 0 (.t 3),(some (23,true)),true⟩,
  ⟨some 25,.load none (.t 24),(some (23,true)),true⟩,
  ⟨some 26,.load (some 4) (.t 2),(some (23,true)),true⟩,
  ⟨some 27,.call f_ref03_Last [(.t 26)],(some (23,true)),true⟩,
  ⟨some 28,.field 0 none (.t 27),(some (23,true)),true⟩,
  ⟨some 29,.bin .leq (.t 25) (.t 28),(some (23,true)),false⟩,
  ⟨some 30,.pick (.t 23) (.t 29) (.v (.bool false)),none,false⟩,
  ⟨some 31,.mv (.t 30),none,false⟩,
  ⟨some 32,.faddr 1 (.t 3),(some (31,true)),true⟩,
  ⟨some 33,.load none (.t 32),(some (31,true)),true⟩,
  ⟨some 34,.load (some 4) (.t 2),(some (31,true)),true⟩,
  ⟨some 35,.call f_ref03_Last [(.t 34)],(some (31,true)),true⟩,
  ⟨some 36,.field 1 none (.t 35),(some (31,true)),true⟩,
  ⟨some 37,.bin .leq (.t 33) (.t 36),(some (31,true)),false⟩,
  ⟨some 38,.pick (.t 31) (.t 37) (.v (.bool false)),none,false⟩,
  ⟨some 4,.mv (.t 38),none,false⟩])
def pc73:SCode:=(.seq (.region false [⟨some 2,.box true 4 (.t 0),none,false⟩,
  ⟨some 3,.box true 2 (.t 1),none,false⟩,
  ⟨some 4,.mv (.v (.bool false)),none,false⟩]) (.seq (.kp [4] pc72) .ret))
def s_ref03_Has:SFn:=⟨2,[.t 4],pc73⟩
def pc74:SCode:=(.region true [⟨some 5,.load (some 4) (.t 2),none,false⟩,
  ⟨some 6,.call f_ref03_May [(.t 5)],none,false⟩,
  ⟨some 7,.mv (.t 6),none,false⟩,
  ⟨some 8,.load (some 4) (.t 3),(some (7,true)),true⟩,
  ⟨some 9,.faddr 0 (.t 2),(some (7,true)),true⟩,
  ⟨some 10,.load (some 2) (.t 9),(some (7,true)),true⟩,
  ⟨some 11,.call f_ref03_Has [(.t 8),(.t 10)],(some (7,true)),false⟩,
  ⟨some 12,.pick (.t 7) (.t 11) (.v (.bool false)),none,false⟩,
  ⟨some 13,.mv (.t 12),none,false⟩,
  ⟨some 14,.load (some 4) (.t 3),(some (13,true)),true⟩,
  ⟨some 15,.load (some 4) (.t 2),(some (13,true)),true⟩,
  ⟨some 16,.call f_ref03_Last [(.t 15)],(some (13,true)),true⟩,
  ⟨some 17,.call f_ref03_Has [(.t 14),(.t 16)],(some (13,true)),false⟩,
  ⟨some 18,.pick (.t 13) (.t 17) (.v (.bool false)),none,false⟩,
  ⟨some 4,.mv (.t 18),none,false⟩])
def pc75:SCode:=(.seq (.region false [⟨some 2,.box true 4 (.t 0),none,false⟩,
  ⟨some 3,.box true 4 (.t 1),none,false⟩,
  ⟨some 4,.mv (.v (.bool false)),none,false⟩]) (.seq (.kp [4] pc74) .ret))
def s_ref03_Within:SFn:=⟨2,[.t 4],pc75⟩
def pc76:SCode:=(.region false [⟨some 5,.faddr 0 (.t 2),none,false⟩,
  ⟨some 6,.load none (.t 5),none,false⟩,
  ⟨some 7,.bin .geq (.t 6) (.v (.int .i64 1)),none,false⟩,
  ⟨some 8,.mv (.t 7),none,false⟩,
  ⟨some 9,.faddr 0 (.t 2),(some (8,true)),false⟩,
  ⟨some 10,.load none (.t 9),(some (8,true)),false⟩,
  ⟨some 11,.bin .leq (.t 10) (.v (.int .i64 2147483647)),(some (8,true)),false⟩,
  ⟨some 12,.pick (.t 8) (.t 11) (.v (.bool false)),none,false⟩,
  ⟨some 13,.mv (.t 12),none,false⟩,
  ⟨some 14,.faddr 1 (.t 2),(some (13,true)),false⟩,
  ⟨some 15,.faddr 2 (.t 14),(some (13,true)),false⟩,
  ⟨some 16,.load none (.t 15),(some (13,true)),false⟩,
  ⟨some 17,.bin .geq (.t 16) (.v (.int .i64 1)),(some (13,true)),false⟩,
  ⟨some 18,.pick (.t 13) (.t 17) (.v (.bool false)),none,false⟩,
  ⟨some 19,.mv (.t 18),none,false⟩,
  ⟨some 20,.faddr 1 (.t 2),(some (19,true)),false⟩,
  ⟨some 21,.faddr 2 (.t 20),(some (19,true)),false⟩,
  ⟨some 22,.load none (.t 21),(some (19,true)),false⟩,
  ⟨some 23,.bin .leq (.t 22) (.v (.int .i64 8)),(some (19,true)),false⟩,
  ⟨some 24,.pick (.t 19) (.t 23) (.v (.bool false)),none,false⟩,
  ⟨some 25,.mv (.t 24),none,false⟩,
  ⟨some 26,.faddr 1 (.t 2),(some (25,true)),false⟩,
  ⟨some 27,.faddr 3 (.t 26),(some (25,true)),false⟩,
  ⟨some 28,.load none (.t 27),(some (25,true)),false⟩,
  ⟨some 29,.bin .geq (.t 28) (.v (.int .i64 1)),(some (25,true)),false⟩,
  ⟨some 30,.pick (.t 25) (.t 29) (.v (.bool false)),none,false⟩,
  ⟨some 31,.mv (.t 30),none,false⟩,
  ⟨some 32,.faddr 1 (.t 2),(some (31,true)),false⟩,
  ⟨some 33,.faddr 3 (.t 32),(some (31,true)),false⟩,
  ⟨some 34,.load none (.t 33),(some (31,true)),false⟩,
  ⟨some 35,.bin .leq (.t 34) (.v (.int .i64 8)),(some (31,true)),false⟩,
  ⟨some 36,.pick (.t 31) (.t 35) (.v (.bool false)),none,false⟩,
  ⟨some 37,.mv (.t 36),none,false⟩,
  ⟨some 38,.faddr 1 (.t 2),(some (37,true)),false⟩,
  ⟨some 39,.load (some 4) (.t 38),(some (37,true)),false⟩,
  ⟨some 40,.load (some 4) (.t 3),(some (37,true)),false⟩,
  ⟨some 41,.call f_ref03_Within [(.t 39),(.t 40)],(some (37,true)),false⟩,
  ⟨some 42,.pick (.t 37) (.t 41) (.v (.bool false)),none,false⟩,
  ⟨some 4,.mv (.t 42),none,false⟩])
def pc77:SCode:=(.seq (.region false [⟨some 2,.box true 5 (.t 0),none,false⟩,
  ⟨some 3,.box true 4 (.t 1),none,false⟩,
  ⟨some 4,.mv (.v (.bool false)),none,false⟩]) (.seq (.kp [4] pc76) .ret))
def s_ref04_MayBe:SFn:=⟨2,[.t 4],pc77⟩
def pc78:SCode:=(.region false [⟨some 2,.box true 4 (.t 0),none,false⟩,
  ⟨some 3,.box true 4 (.t 1),none,false⟩,
  ⟨some 4,.alloc true [(.int .i64 0),(.int .i64 0),(.int .i64 0),(.int .i64 0)],none,false⟩,
  ⟨some 5,.mv (.v (.bool false)),none,false⟩])
def pc79:SCode:=(.region false [⟨some 10,.load (some 4) (.t 2),none,false⟩,
  ⟨some 11,.call f_ref03_May [(.t 10)],none,false⟩,
  ⟨some 12,.un .not (.t 11),none,false⟩,
  ⟨some 13,.mv (.t 12),none,false⟩,
  ⟨some 14,.load (some 4) (.t 3),(some (13,false)),false⟩,
  ⟨some 15,.call f_ref03_May [(.t 14)],(some (13,false)),false⟩,
  ⟨some 16,.un .not (.t 15),(some (13,false)),false⟩,
  ⟨some 17,.pick (.t 13) (.v (.bool true)) (.t 16),none,false⟩])
def pc80:SCode:=(.region false [⟨some 18,.build [(.int .i64 0),(.int .i64 0),(.int .i64 0),(.int .i64 0)] [],none,false⟩,
  ⟨none,.store 4 [] (.t 4) (.t 18),none,false⟩,
  ⟨some 5,.mv (.v (.bool false)),none,false⟩])
def pc81:SCode:=(.region true [⟨some 19,.faddr 0 (.t 2),none,true⟩,
  ⟨some 20,.faddr 0 (.t 19),none,true⟩,
  ⟨some 21,.load none (.t 20),none,true⟩,
  ⟨some 22,.faddr 0 (.t 2),none,true⟩,
  ⟨some 23,.faddr 1 (.t 22),none,true⟩,
  ⟨some 24,.load none (.t 23),none,true⟩,
  ⟨some 6,.mv (.t 21),none,true⟩,
  ⟨some 7,.mv (.t 24),none,false⟩])
def pc82:SCode:=(.region false [⟨some 25,.faddr 0 (.t 3),none,false⟩,
  ⟨some 26,.faddr 0 (.t 25),none,false⟩,
  ⟨some 27,.load none (.t 26),none,false⟩,
  ⟨some 28,.mv (.t 6),none,false⟩,
  ⟨some 29,.bin .gtr (.t 27) (.t 28),none,false⟩])
def pc83:SCode:=(.region false [⟨some 30,.faddr 0 (.t 3),none,false⟩,
  ⟨some 31,.faddr 0 (.t 30),none,false⟩,
  ⟨some 32,.load none (.t 31),none,false⟩,
  ⟨some 6,.mv (.t 32),none,false⟩])
def pc84:SCode:=(.region false [⟨some 33,.faddr 0 (.t 3),none,false⟩,
  ⟨some 34,.faddr 1 (.t 33),none,false⟩,
  ⟨some 35,.load none (.t 34),none,false⟩,
  ⟨some 36,.mv (.t 7),none,false⟩,
  ⟨some 37,.bin .gtr (.t 35) (.t 36),none,false⟩])
def pc85:SCode:=(.region false [⟨some 38,.faddr 0 (.t 3),none,false⟩,
  ⟨some 39,.faddr 1 (.t 38),none,false⟩,
  ⟨some 40,.load none (.t 39),none,false⟩,
  ⟨some 7,.mv (.t 40),none,false⟩])
def pc86:SCode:=(.region true [⟨some 41,.load (some 4) (.t 2),none,true⟩,
  ⟨some 43,.load (some 4) (.t 3),none,true⟩,
  ⟨some 42,.call f_ref03_Last [(.t 41)],none,true⟩,
  ⟨some 44,.call f_ref03_Last [(.t 43)],none,false⟩,
  ⟨some 8,.alloc true [(.int .i64 0),(.int .i64 0)],none,true⟩,
  ⟨some 9,.alloc true [(.int .i64 0),(.int .i64 0)],none,true⟩,
  ⟨none,.store 2 [] (.t 8) (.t 42),none,false⟩,
  ⟨none,.store 2 [] (.t 9) (.t 44),none,false⟩])
def pc87:SCode:=(.region false [⟨some 45,.faddr 0 (.t 9),none,false⟩,
  ⟨some 46,.load none (.t 45),none,false⟩,
  ⟨some 47,.faddr 0 (.t 8),none,false⟩,
  ⟨some 48,.load none (.t 47),none,false⟩,
  ⟨some 49,.bin .lss (.t 46) (.t 48),none,false⟩])
def pc88:SCode:=(.region false [⟨some 50,.faddr 0 (.t 9),none,false⟩,
  ⟨some 51,.load none (.t 50),none,false⟩,
  ⟨some 52,.faddr 0 (.t 8),none,false⟩,
  ⟨none,.store 1 [] (.t 52) (.t 51),none,false⟩])
def pc89:SCode:=(.region false [⟨some 53,.faddr 1 (.t 9),none,false⟩,
  ⟨some 54,.load none (.t 53),none,false⟩,
  ⟨some 55,.faddr 1 (.t 8),none,false⟩,
  ⟨some 56,.load none (.t 55),none,false⟩,
  ⟨some 57,.bin .lss (.t 54) (.t 56),none,false⟩])
def pc90:SCode:=(.region false [⟨some 58,.faddr 1 (.t 9),none,false⟩,
  ⟨some 59,.load none (.t 58),none,false⟩,
  ⟨some 60,.faddr 1 (.t 8),none,false⟩,
  ⟨none,.store 1 [] (.t 60) (.t 59),none,false⟩])
def pc91:SCode:=(.region false [⟨some 61,.faddr 0 (.t 8),none,false⟩,
  ⟨some 62,.load none (.t 61),none,false⟩,
  ⟨some 63,.mv (.t 6),none,false⟩,
  ⟨some 64,.bin .lss (.t 62) (.t 63),none,false⟩,
  ⟨some 65,.mv (.t 64),none,false⟩,
  ⟨some 66,.faddr 1 (.t 8),(some (65,false)),false⟩,
  ⟨some 67,.load none (.t 66),(some (65,false)),false⟩,
  ⟨some 68,.mv (.t 7),(some (65,false)),false⟩,
  ⟨some 69,.bin .lss (.t 67) (.t 68),(some (65,false)),false⟩,
  ⟨some 70,.pick (.t 65) (.v (.bool true)) (.t 69),none,false⟩])
def pc92:SCode:=(.region false [⟨some 71,.build [(.int .i64 0),(.int .i64 0),(.int .i64 0),(.int .i64 0)] [],none,false⟩,
  ⟨none,.store 4 [] (.t 4) (.t 71),none,false⟩,
  ⟨some 5,.mv (.v (.bool false)),none,false⟩])
def pc93:SCode:=(.region false [⟨some 72,.mv (.t 6),none,false⟩,
  ⟨some 73,.mv (.t 7),none,false⟩,
  ⟨some 74,.build [(.int .i64 0),(.int .i64 0)] [(0,1,(.t 72)),(1,1,(.t 73))],none,false⟩,
  ⟨some 75,.faddr 0 (.t 8),none,false⟩,
  ⟨some 76,.load none (.t 75),none,false⟩,
  ⟨some 77,.mv (.t 6),none,false⟩,
  ⟨some 78,.bin .sub (.t 76) (.t 77),none,false⟩,
  ⟨some 79,.bin .add (.t 78) (.v (.int .i64 1)),none,false⟩,
  ⟨some 80,.faddr 1 (.t 8),none,false⟩,
  ⟨some 81,.load none (.t 80),none,false⟩,
  ⟨some 82,.mv (.t 7),none,false⟩,
  ⟨some 83,.bin .sub (.t 81) (.t 82),none,false⟩,
  ⟨some 84,.bin .add (.t 83) (.v (.int .i64 1)),none,false⟩,
  ⟨some 85,.build [(.int .i64 0),(.int .i64 0),(.int .i64 0),(.int .i64 0)] [(0,2,(.t 74)),(2,1,(.t 79)),(3,1,(.t 84))],none,false⟩,
  ⟨none,.store 4 [] (.t 4) (.t 85),none,false⟩,
  ⟨some 5,.mv (.v (.bool true)),none,false⟩])
def pc94:SCode:=(.seq (.kp [4,6,7,8] (.seq (.kp [4,6,7,8,9,57] pc89) (.cond (.t 57) pc90 .skip))) (.seq (.kp [4,6,7,8] (.seq (.kp [4,6,7,8,70] pc91) (.cond (.t 70) (.seq pc92 .ret) .skip))) (.seq (.kp [4,5] pc93) .ret)))
def pc95:SCode:=(.seq (.kp [2,3,4,6,7] (.seq (.kp [2,3,4,6,7,37] pc84) (.cond (.t 37) pc85 .skip))) (.seq (.kp [4,6,7,8,9] pc86) (.seq (.kp [4,6,7,8,9] (.seq (.kp [4,6,7,8,9,49] pc87) (.cond (.t 49) pc88 .skip))) pc94)))
def pc96:SCode:=(.seq (.kp [2,3,4] (.seq (.kp [2,3,4,17] pc79) (.cond (.t 17) (.seq pc80 .ret) .skip))) (.seq (.kp [2,3,4,6,7] pc81) (.seq (.kp [2,3,4,6,7] (.seq (.kp [2,3,4,6,7,29] pc82) (.cond (.t 29) pc83 .skip))) pc95)))
def s_ref03_Meet:SFn:=⟨2,[.cell 4 (some 4),.t 5],(.seq pc78 pc96)⟩
def pc97:SCode:=(.region false [⟨some 8,.load (some 4) (.t 2),none,false⟩,
  ⟨some 9,.load (some 4) (.t 3),none,false⟩,
  ⟨some 10,.call f_ref03_Meet [(.t 8),(.t 9)],none,false⟩,
  ⟨some 7,.mv (.t 10),none,false⟩,
  ⟨some 11,.ext (.t 7) 0,none,false⟩,
  ⟨some 12,.ext (.t 7) 1,none,false⟩,
  ⟨some 5,.alloc true [(.int .i64 0),(.int .i64 0),(.int .i64 0),(.int .i64 0)],none,false⟩,
  ⟨none,.store 4 [] (.t 5) (.t 11),none,false⟩,
  ⟨some 6,.mv (.t 12),none,false⟩])
def pc98:SCode:=(.seq (.region false [⟨some 2,.box true 4 (.t 0),none,false⟩,
  ⟨some 3,.box true 4 (.t 1),none,false⟩,
  ⟨some 4,.mv (.v (.bool false)),none,false⟩]) (.seq (.kp [6] pc97) (.seq (.region false [⟨some 13,.mv (.t 6),none,false⟩,
  ⟨some 4,.mv (.t 13),none,false⟩]) .ret)))
def s_ref04_share:SFn:=⟨2,[.t 4],pc98⟩
def pc99:SCode:=(.region false [⟨some 6,.faddr 0 (.t 1),none,false⟩,
  ⟨some 7,.load none (.t 6),none,false⟩,
  ⟨some 8,.bin .lss (.t 7) (.v (.int .i64 1)),none,false⟩,
  ⟨some 9,.mv (.t 8),none,false⟩,
  ⟨some 10,.faddr 0 (.t 1),(some (9,false)),false⟩,
  ⟨some 11,.load none (.t 10),(some (9,false)),false⟩,
  ⟨some 12,.bin .gtr (.t 11) (.v (.int .i64 128)),(some (9,false)),false⟩,
  ⟨some 13,.pick (.t 9) (.v (.bool true)) (.t 12),none,false⟩,
  ⟨some 14,.mv (.t 13),none,false⟩,
  ⟨some 15,.faddr 1 (.t 1),(some (14,false)),false⟩,
  ⟨some 16,.load none (.t 15),(some (14,false)),false⟩,
  ⟨some 17,.bin .lss (.t 16) (.v (.int .i64 1)),(some (14,false)),false⟩,
  ⟨some 18,.pick (.t 14) (.v (.bool true)) (.t 17),none,false⟩,
  ⟨some 19,.mv (.t 18),none,false⟩,
  ⟨some 20,.faddr 1 (.t 1),(some (19,false)),false⟩,
  ⟨some 21,.load none (.t 20),(some (19,false)),false⟩,
  ⟨some 22,.bin .gtr (.t 21) (.v (.int .i64 128)),(some (19,false)),false⟩,
  ⟨some 23,.pick (.t 19) (.v (.bool true)) (.t 22),none,false⟩,
  ⟨some 24,.mv (.t 23),none,false⟩,
  ⟨some 25,.faddr 2 (.t 1),(some (24,false)),false⟩,
  ⟨some 26,.load none (.t 25),(some (24,false)),false⟩,
  ⟨some 27,.len (.t 26),(some (24,false)),false⟩,
  ⟨some 28,.faddr 0 (.t 1),(some (24,false)),false⟩,
  ⟨some 29,.load none (.t 28),(some (24,false)),false⟩,
  ⟨some 30,.faddr 1 (.t 1),(some (24,false)),false⟩,
  ⟨some 31,.load none (.t 30),(some (24,false)),false⟩,
  ⟨some 32,.bin .mul (.t 29) (.t 31),(some (24,false)),false⟩,
  ⟨some 33,.bin .neq (.t 27) (.t 32),(some (24,false)),false⟩,
  ⟨some 34,.pick (.t 24) (.v (.bool true)) (.t 33),none,false⟩,
  ⟨some 35,.mv (.t 34),none,false⟩,
  ⟨some 36,.faddr 3 (.t 1),(some (35,false)),false⟩,
  ⟨some 37,.load none (.t 36),(some (35,false)),false⟩,
  ⟨some 38,.len (.t 37),(some (35,false)),false⟩,
  ⟨some 39,.bin .gtr (.t 38) (.v (.int .i64 256)),(some (35,false)),false⟩,
  ⟨some 40,.pick (.t 35) (.v (.bool true)) (.t 39),none,false⟩])
def pc100:SCode:=(.region false [⟨some 41,.mv (.t 3),none,false⟩,
  ⟨some 42,.faddr 2 (.t 1),none,false⟩,
  ⟨some 43,.load none (.t 42),none,false⟩,
  ⟨some 44,.len (.t 43),none,false⟩,
  ⟨some 45,.bin .lss (.t 41) (.t 44),none,false⟩])
def pc101:SCode:=(.region false [⟨some 48,.faddr 2 (.t 1),none,false⟩,
  ⟨some 49,.load none (.t 48),none,false⟩,
  ⟨some 50,.mv (.t 3),none,false⟩,
  ⟨some 51,.iaddr 1 (.t 49) (.t 50),none,false⟩,
  ⟨some 52,.load none (.t 51),none,false⟩,
  ⟨some 53,.conv .i64 (.t 52),none,false⟩,
  ⟨some 54,.bin .geq (.t 53) (.v (.int .i64 4)),none,false⟩])
def pc102:SCode:=(.seq (.kp [1,3] (.block 1 (.seq (.kp [1,3,54] pc101) (.cond (.t 54) (.seq (.region false [⟨some 2,.mv (.v (.int .i64 1)),none,false⟩]) .ret) .skip)))) (.region false [⟨some 46,.mv (.t 3),none,false⟩,
  ⟨some 47,.bin .add (.t 46) (.v (.int .i64 1)),none,false⟩,
  ⟨some 3,.mv (.t 47),none,false⟩]))
def pc103:SCode:=(.seq (.kp [1,3] (.seq (.kp [1,3,45] pc100) (.cond (.t 45) .skip (.exit 0)))) pc102)
def pc104:SCode:=(.region false [⟨some 55,.mv (.t 4),none,false⟩,
  ⟨some 56,.faddr 3 (.t 1),none,false⟩,
  ⟨some 57,.load none (.t 56),none,false⟩,
  ⟨some 58,.len (.t 57),none,false⟩,
  ⟨some 59,.bin .lss (.t 55) (.t 58),none,false⟩])
def pc105:SCode:=(.region true [⟨some 62,.faddr 3 (.t 1),none,true⟩,
  ⟨some 63,.load none (.t 62),none,true⟩,
  ⟨some 64,.mv (.t 4),none,true⟩,
  ⟨some 65,.iaddr 5 (.t 63) (.t 64),none,true⟩,
  ⟨some 66,.load (some 5) (.t 65),none,true⟩,
  ⟨some 67,.faddr 0 (.t 1),none,true⟩,
  ⟨some 68,.load none (.t 67),none,true⟩,
  ⟨some 69,.faddr 1 (.t 1),none,true⟩,
  ⟨some 70,.load none (.t 69),none,true⟩,
  ⟨some 71,.build [(.int .i64 0),(.int .i64 0),(.int .i64 0),(.int .i64 0)] [(2,1,(.t 68)),(3,1,(.t 70))],none,true⟩,
  ⟨some 72,.call f_ref04_MayBe [(.t 66),(.t 71)],none,false⟩,
  ⟨some 73,.un .not (.t 72),none,false⟩])
def pc106:SCode:=(.seq (.region false [⟨some 74,.mv (.t 5),none,false⟩,
  ⟨some 75,.mv (.t 4),none,false⟩,
  ⟨some 76,.bin .lss (.t 74) (.t 75),none,false⟩]) (.cond (.t 76) .skip (.exit 4)))
def pc107:SCode:=(.region true [⟨some 79,.faddr 3 (.t 1),none,true⟩,
  ⟨some 80,.load none (.t 79),none,true⟩,
  ⟨some 81,.mv (.t 5),none,true⟩,
  ⟨some 82,.iaddr 5 (.t 80) (.t 81),none,true⟩,
  ⟨some 83,.faddr 0 (.t 82),none,true⟩,
  ⟨some 84,.load none (.t 83),none,true⟩,
  ⟨some 85,.faddr 3 (.t 1),none,true⟩,
  ⟨some 86,.load none (.t 85),none,true⟩,
  ⟨some 87,.mv (.t 4),none,true⟩,
  ⟨some 88,.iaddr 5 (.t 86) (.t 87),none,true⟩,
  ⟨some 89,.faddr 0 (.t 88),none,true⟩,
  ⟨some 90,.load none (.t 89),none,true⟩,
  ⟨some 91,.bin .geq (.t 84) (.t 90),none,false⟩,
  ⟨some 92,.mv (.t 91),none,false⟩,
  ⟨some 93,.faddr 3 (.t 1),(some (92,false)),true⟩,
  ⟨some 94,.load none (.t 93),(some (92,false)),true⟩,
  ⟨some 95,.mv (.t 5),(some (92,false)),true⟩,
  ⟨some 96,.iaddr 5 (.t 94) (.t 95),(some (92,false)),true⟩,
  ⟨some 97,.faddr 1 (.t 96),(some (92,false)),true⟩,
  ⟨some 98,.load (some 4) (.t 97),(some (92,false)),true⟩,
  ⟨some 99,.faddr 3 (.t 1),(some (92,false)),true⟩,
  ⟨some 100,.load none (.t 99),(some (92,false)),true⟩,
  ⟨some 101,.mv (.t 4),(some (92,false)),true⟩,
  ⟨some 102,.iaddr 5 (.t 100) (.t 101),(some (92,false)),true⟩,
  ⟨some 103,.faddr 1 (.t 102),(some (92,false)),true⟩,
  ⟨some 104,.load (some 4) (.t 103),(some (92,false)),true⟩,
  ⟨some 105,.call f_ref04_share [(.t 98),(.t 104)],(some (92,false)),false⟩,
  ⟨some 106,.pick (.t 92) (.v (.bool true)) (.t 105),none,false⟩])
def pc108:SCode:=(.seq (.kp [1,4,5] (.block 5 (.seq (.kp [1,4,5,106] pc107) (.cond (.t 106) (.seq (.region false [⟨some 2,.mv (.v (.int .i64 1)),none,false⟩]) .ret) .skip)))) (.region false [⟨some 77,.mv (.t 5),none,false⟩,
  ⟨some 78,.bin .add (.t 77) (.v (.int .i64 1)),none,false⟩,
  ⟨some 5,.mv (.t 78),none,false⟩]))
def pc109:SCode:=(.seq (.kp [1,4,5] pc106) pc108)
def pc110:SCode:=(.seq (.kp [1,4] (.seq (.kp [1,4,73] pc105) (.cond (.t 73) (.seq (.region false [⟨some 2,.mv (.v (.int .i64 1)),none,false⟩]) .ret) .skip))) (.seq (.kp [1,4,5] (.region false [⟨some 5,.mv (.v (.int .i64 0)),none,false⟩])) (.block 4 (.loop (some [1,4,5]) pc109))))
def pc111:SCode:=(.seq (.kp [1,4] (.block 3 pc110)) (.region false [⟨some 60,.mv (.t 4),none,false⟩,
  ⟨some 61,.bin .add (.t 60) (.v (.int .i64 1)),none,false⟩,
  ⟨some 4,.mv (.t 61),none,false⟩]))
def pc112:SCode:=(.seq (.kp [1,4] (.seq (.kp [1,4,59] pc104) (.cond (.t 59) .skip (.exit 2)))) pc111)
def pc113:SCode:=(.seq (.kp [] (.seq (.kp [1,4] (.region false [⟨some 4,.mv (.v (.int .i64 0)),none,false⟩])) (.block 2 (.loop (some [1,4]) pc112)))) (.seq (.region false [⟨some 2,.mv (.v (.int .i64 0)),none,false⟩]) .ret))
def pc114:SCode:=(.seq (.kp [1] (.seq (.kp [1,40] pc99) (.cond (.t 40) (.seq (.region false [⟨some 2,.mv (.v (.int .i64 1)),none,false⟩]) .ret) .skip))) (.seq (.kp [1] (.seq (.kp [1,3] (.region false [⟨some 3,.mv (.v (.int .i64 0)),none,false⟩])) (.block 0 (.loop (some [1,3]) pc103)))) pc113))
def s_ref04_Check:SFn:=⟨1,[.t 2],(.seq (.region false [⟨some 1,.box true 4 (.t 0),none,false⟩,
  ⟨some 2,.mv (.v (.int .i64 0)),none,false⟩]) pc114)⟩
def pc115:SCode:=(.seq (.region false [⟨some 5,.load (some 4) (.t 1),none,false⟩,
  ⟨some 6,.call f_ref04_Check [(.t 5)],none,false⟩,
  ⟨some 7,.bin .neq (.t 6) (.v (.int .i64 0)),none,false⟩]) (.cond (.t 7) (.seq (.region false [⟨some 2,.mv (.v .nilp),none,false⟩,
  ⟨some 3,.mv (.v (.int .i64 1)),none,false⟩]) .ret) .skip))
def pc116:SCode:=(.region false [⟨some 8,.faddr 0 (.t 1),none,false⟩,
  ⟨some 9,.load none (.t 8),none,false⟩,
  ⟨some 10,.faddr 1 (.t 1),none,false⟩,
  ⟨some 11,.load none (.t 10),none,false⟩,
  ⟨some 12,.build [(.int .i64 0),(.int .i64 0),.nils,.nils,.nils] [(0,1,(.t 9)),(1,1,(.t 11))],none,false⟩,
  ⟨some 13,.box false 5 (.t 12),none,false⟩,
  ⟨some 4,.mv (.t 13),none,false⟩])
def pc117:SCode:=(.region true [⟨some 14,.mv (.t 4),none,true⟩,
  ⟨some 15,.mv (.t 4),none,true⟩,
  ⟨some 16,.nilck (.t 15),none,true⟩,
  ⟨some 17,.faddr 2 (.t 16),none,true⟩,
  ⟨some 18,.load none (.t 17),none,true⟩,
  ⟨some 19,.faddr 2 (.t 1),none,true⟩,
  ⟨some 20,.load none (.t 19),none,true⟩,
  ⟨some 21,.append 1 1 [(.int .u8 0)] [] (.t 18) (.t 20),none,false⟩,
  ⟨some 22,.nilck (.t 14),none,false⟩,
  ⟨some 23,.faddr 2 (.t 22),none,false⟩,
  ⟨none,.store 1 [] (.t 23) (.t 21),none,false⟩])
def pc118:SCode:=(.region true [⟨some 24,.mv (.t 4),none,true⟩,
  ⟨some 25,.mv (.t 4),none,true⟩,
  ⟨some 26,.nilck (.t 25),none,true⟩,
  ⟨some 27,.faddr 3 (.t 26),none,true⟩,
  ⟨some 28,.load none (.t 27),none,true⟩,
  ⟨some 29,.faddr 3 (.t 1),none,true⟩,
  ⟨some 30,.load none (.t 29),none,true⟩,
  ⟨some 31,.append 5 40 [(.int .i64 0),(.int .i64 0),(.int .i64 0),(.int .i64 0),(.int .i64 0)] [] (.t 28) (.t 30),none,false⟩,
  ⟨some 32,.nilck (.t 24),none,false⟩,
  ⟨some 33,.faddr 3 (.t 32),none,false⟩,
  ⟨none,.store 1 [] (.t 33) (.t 31),none,false⟩])
def pc119:SCode:=(.seq (.kp [1,4] pc117) (.seq (.kp [4] pc118) (.seq (.region false [⟨some 34,.mv (.t 4),none,false⟩,
  ⟨some 2,.mv (.t 34),none,false⟩,
  ⟨some 3,.mv (.v (.int .i64 0)),none,false⟩]) .ret)))
def pc120:SCode:=(.seq (.region false [⟨some 1,.box true 4 (.t 0),none,false⟩,
  ⟨some 2,.mv (.v .nilp),none,false⟩,
  ⟨some 3,.mv (.v (.int .i64 0)),none,false⟩]) (.seq (.kp [1] pc115) (.seq (.kp [1,4] pc116) pc119)))
def s_ref04_New:SFn:=⟨1,[.t 2,.t 3],pc120⟩
def pc121:SCode:=(.region false [⟨some 1,.box true 4 (.t 0),none,false⟩,
  ⟨some 2,.mv (.v .nilp),none,false⟩,
  ⟨some 3,.mv (.v .nilp),none,false⟩,
  ⟨some 4,.mv (.v (.bool false)),none,false⟩])
def pc122:SCode:=(.region false [⟨some 10,.load (some 4) (.t 1),none,false⟩,
  ⟨some 11,.call f_grid_New [(.t 10)],none,false⟩,
  ⟨some 9,.mv (.t 11),none,false⟩,
  ⟨some 12,.ext (.t 9) 0,none,false⟩,
  ⟨some 13,.ext (.t 9) 1,none,false⟩,
  ⟨some 5,.mv (.t 12),none,false⟩,
  ⟨some 6,.mv (.t 13),none,false⟩])
def pc123:SCode:=(.region false [⟨some 15,.load (some 4) (.t 1),none,false⟩,
  ⟨some 16,.call f_ref04_New [(.t 15)],none,false⟩,
  ⟨some 14,.mv (.t 16),none,false⟩,
  ⟨some 17,.ext (.t 14) 0,none,false⟩,
  ⟨some 18,.ext (.t 14) 1,none,false⟩,
  ⟨some 7,.mv (.t 17),none,false⟩,
  ⟨some 8,.mv (.t 18),none,false⟩])
def pc124:SCode:=(.region false [⟨some 19,.mv (.t 5),none,false⟩,
  ⟨some 20,.mv (.t 7),none,false⟩,
  ⟨some 21,.mv (.t 6),none,false⟩,
  ⟨some 22,.bin .eql (.t 21) (.v (.int .i64 0)),none,false⟩,
  ⟨some 23,.mv (.t 22),none,false⟩,
  ⟨some 24,.mv (.t 8),(some (23,true)),false⟩,
  ⟨some 25,.bin .eql (.t 24) (.v (.int .i64 0)),(some (23,true)),false⟩,
  ⟨some 26,.pick (.t 23) (.t 25) (.v (.bool false)),none,false⟩,
  ⟨some 2,.mv (.t 19),none,false⟩,
  ⟨some 3,.mv (.t 20),none,false⟩,
  ⟨some 4,.mv (.t 26),none,false⟩])
def s_law06_Both:SFn:=⟨1,[.t 2,.t 3,.t 4],(.seq pc121 (.seq (.kp [1,5,6] pc122) (.seq (.kp [5,6,7,8] pc123) (.seq (.kp [2,3,4] pc124) .ret))))⟩
def pc125:SCode:=(.region false [⟨some 2,.box true 1 (.t 0),none,false⟩,
  ⟨some 4,.alloc true [(.int .i64 0),(.int .i64 0),(.int .i64 0),(.int .i64 0)],none,false⟩,
  ⟨some 5,.mv (.v (.int .i64 0)),none,false⟩])
def pc126:SCode:=(.region false [⟨some 12,.build [(.int .i64 0),(.int .i64 0),(.int .i64 0),(.int .i64 0)] [],none,false⟩,
  ⟨none,.store 4 [] (.t 4) (.t 12),none,false⟩,
  ⟨some 5,.mv (.v (.int .i64 1)),none,false⟩])
def pc127:SCode:=(.seq (.region false [⟨some 9,.load none (.t 2),none,false⟩,
  ⟨some 10,.call f_grid_World_is [(.t 9)],none,false⟩,
  ⟨some 11,.un .not (.t 10),none,false⟩]) (.cond (.t 11) (.seq pc126 .ret) .skip))
def pc128:SCode:=(.region false [⟨some 14,.load none (.t 2),none,false⟩,
  ⟨some 15,.nilck (.t 14),none,false⟩,
  ⟨some 16,.faddr 3 (.t 15),none,false⟩,
  ⟨some 17,.load none (.t 16),none,false⟩,
  ⟨some 18,.mv (.t 1),none,false⟩,
  ⟨some 19,.lookup false [.int] (.agg [(.int .i64 0),(.int .i64 0),(.int .i64 0),(.int .i64 0)]) true (.t 17) (.t 18),none,false⟩,
  ⟨some 13,.mv (.t 19),none,false⟩,
  ⟨some 20,.ext (.t 13) 0,none,false⟩,
  ⟨some 21,.ext (.t 13) 1,none,false⟩,
  ⟨some 6,.alloc true [(.int .i64 0),(.int .i64 0),(.int .i64 0),(.int .i64 0)],none,false⟩,
  ⟨none,.store 4 [] (.t 6) (.t 20),none,false⟩,
  ⟨some 7,.mv (.t 21),none,false⟩])
def pc129:SCode:=(.region false [⟨some 24,.build [(.int .i64 0),(.int .i64 0),(.int .i64 0),(.int .i64 0)] [],none,false⟩,
  ⟨none,.store 4 [] (.t 4) (.t 24),none,false⟩,
  ⟨some 5,.mv (.v (.int .i64 4)),none,false⟩])
def pc130:SCode:=(.region false [⟨some 25,.load none (.t 2),none,false⟩,
  ⟨some 26,.nilck (.t 25),none,false⟩,
  ⟨some 27,.faddr 3 (.t 26),none,false⟩,
  ⟨some 28,.load none (.t 27),none,false⟩,
  ⟨some 29,.mv (.t 1),none,false⟩,
  ⟨none,.delete false [.int] (.t 28) (.t 29),none,false⟩])
def pc131:SCode:=(.region false [⟨some 8,.alloc true [(.int .i64 0),(.int .i64 0)],none,false⟩,
  ⟨none,.store 2 [] (.t 8) (.t 32),none,false⟩])
def pc132:SCode:=(.region true [⟨some 33,.load none (.t 2),none,true⟩,
  ⟨some 34,.nilck (.t 33),none,true⟩,
  ⟨some 35,.faddr 4 (.t 34),none,true⟩,
  ⟨some 36,.load none (.t 35),none,true⟩,
  ⟨some 37,.load (some 2) (.t 8),none,true⟩,
  ⟨none,.delete true [.int,.int] (.t 36) (.t 37),none,false⟩])
def pc133:SCode:=(.block 1 pc132)
def pc134:SCode:=(.seq (.kp [2,4,6,31] (.region false [⟨some 30,.load (some 4) (.t 6),none,false⟩,
  ⟨some 31,.call f_cell_Cells [(.t 30)],none,false⟩])) (.block 0 (.rangef (.t 31) [32] pc131 pc133)))
def pc135:SCode:=(.region true [⟨some 38,.load none (.t 2),none,true⟩,
  ⟨some 39,.load none (.t 2),none,true⟩,
  ⟨some 40,.nilck (.t 39),none,true⟩,
  ⟨some 41,.faddr 5 (.t 40),none,true⟩,
  ⟨some 42,.load none (.t 41),none,true⟩,
  ⟨some 43,.load (some 4) (.t 6),none,true⟩,
  ⟨some 44,.bslice [(.int .i64 0),(.int .i64 0),(.int .i64 0),(.int .i64 0)] 1 4 [(0,4,(.t 43))],none,true⟩,
  ⟨some 45,.append 4 32 [(.int .i64 0),(.int .i64 0),(.int .i64 0),(.int .i64 0)] [(.t 2)] (.t 42) (.t 44),none,false⟩,
  ⟨some 46,.nilck (.t 38),none,false⟩,
  ⟨some 47,.faddr 5 (.t 46),none,false⟩,
  ⟨none,.store 1 [] (.t 47) (.t 45),none,false⟩])
def pc136:SCode:=(.seq (.kp [4,6] pc135) (.seq (.region false [⟨some 48,.load (some 4) (.t 6),none,false⟩,
  ⟨none,.store 4 [] (.t 4) (.t 48),none,false⟩,
  ⟨some 5,.mv (.v (.int .i64 0)),none,false⟩]) .ret))
def pc137:SCode:=(.seq (.kp [1,2,4,6] (.seq (.region false [⟨some 22,.mv (.t 7),none,false⟩,
  ⟨some 23,.un .not (.t 22),none,false⟩]) (.cond (.t 23) (.seq pc129 .ret) .skip))) (.seq (.kp [2,4,6] pc130) (.seq (.kp [2,4,6] pc134) pc136)))
def s_grid_World_Raze:SFn:=⟨2,[.cell 4 (some 4),.t 5],(.seq pc125 (.seq (.kp [1,2,4] pc127) (.seq (.kp [1,2,4,6,7] pc128) pc137)))⟩
def pc138:SCode:=(.region true [⟨some 3,.mv (.t 0),none,true⟩,
  ⟨some 4,.nilck (.t 3),none,true⟩,
  ⟨some 5,.faddr 0 (.t 4),none,true⟩,
  ⟨some 6,.load none (.t 5),none,true⟩,
  ⟨some 7,.mv (.t 0),none,true⟩,
  ⟨some 8,.nilck (.t 7),none,true⟩,
  ⟨some 9,.faddr 1 (.t 8),none,true⟩,
  ⟨some 10,.load none (.t 9),none,true⟩,
  ⟨some 11,.build [(.int .i64 0),(.int .i64 0),(.int .i64 0),(.int .i64 0)] [(2,1,(.t 6)),(3,1,(.t 10))],none,false⟩,
  ⟨none,.store 4 [] (.t 2) (.t 11),none,false⟩])
def s_ref04_All:SFn:=⟨1,[.cell 2 (some 4)],(.seq (.region false [⟨some 2,.alloc true [(.int .i64 0),(.int .i64 0),(.int .i64 0),(.int .i64 0)],none,false⟩]) (.seq (.kp [2] pc138) .ret))⟩
def pc139:SCode:=(.region false [⟨some 6,.mv (.t 5),none,false⟩,
  ⟨some 7,.mv (.t 0),none,false⟩,
  ⟨some 8,.nilck (.t 7),none,false⟩,
  ⟨some 9,.faddr 3 (.t 8),none,false⟩,
  ⟨some 10,.load none (.t 9),none,false⟩,
  ⟨some 11,.len (.t 10),none,false⟩,
  ⟨some 12,.bin .lss (.t 6) (.t 11),none,false⟩])
def pc140:SCode:=(.region false [⟨some 15,.mv (.t 0),none,false⟩,
  ⟨some 16,.nilck (.t 15),none,false⟩,
  ⟨some 17,.faddr 3 (.t 16),none,false⟩,
  ⟨some 18,.load none (.t 17),none,false⟩,
  ⟨some 19,.mv (.t 5),none,false⟩,
  ⟨some 20,.iaddr 5 (.t 18) (.t 19),none,false⟩,
  ⟨some 21,.faddr 0 (.t 20),none,false⟩,
  ⟨some 22,.load none (.t 21),none,false⟩,
  ⟨some 23,.mv (.t 1),none,false⟩,
  ⟨some 24,.bin .eql (.t 22) (.t 23),none,false⟩])
def pc141:SCode:=(.kp [0,1,5] (.block 1 (.seq (.kp [0,1,5,24] pc140) (.cond (.t 24) (.seq (.region false [⟨some 25,.mv (.t 5),none,false⟩,
  ⟨some 4,.mv (.t 25),none,false⟩]) .ret) .skip))))
def pc142:SCode:=(.seq (.kp [0,1,5] (.seq (.kp [0,1,5,12] pc139) (.cond (.t 12) .skip (.exit 0)))) (.seq pc141 (.region false [⟨some 13,.mv (.t 5),none,false⟩,
  ⟨some 14,.bin .add (.t 13) (.v (.int .i64 1)),none,false⟩,
  ⟨some 5,.mv (.t 14),none,false⟩])))
def pc143:SCode:=(.seq (.kp [] (.seq (.kp [0,1,5] (.region false [⟨some 5,.mv (.v (.int .i64 0)),none,false⟩])) (.block 0 (.loop (some [0,1,5]) pc142)))) (.seq (.region false [⟨some 4,.mv (.v (.int .i64 (-1))),none,false⟩]) .ret))
def s_ref04_place:SFn:=⟨2,[.t 4],(.seq (.region false [⟨some 4,.mv (.v (.int .i64 0)),none,false⟩]) pc143)⟩
def pc144:SCode:=(.region true [⟨some 7,.load (some 5) (.t 3),none,true⟩,
  ⟨some 8,.mv (.t 0),none,true⟩,
  ⟨some 9,.call f_ref04_All [(.t 8)],none,true⟩,
  ⟨some 10,.call f_ref04_MayBe [(.t 7),(.t 9)],none,false⟩,
  ⟨some 11,.un .not (.t 10),none,false⟩,
  ⟨some 6,.mv (.t 11),none,false⟩])
def pc145:SCode:=(.region false [⟨some 13,.mv (.t 0),none,false⟩,
  ⟨some 14,.faddr 0 (.t 3),none,false⟩,
  ⟨some 15,.load none (.t 14),none,false⟩,
  ⟨some 16,.call f_ref04_place [(.t 13),(.t 15)],none,false⟩,
  ⟨some 17,.bin .geq (.t 16) (.v (.int .i64 0)),none,false⟩,
  ⟨some 12,.mv (.t 17),none,false⟩])
def pc146:SCode:=(.region false [⟨some 19,.mv (.t 0),none,false⟩,
  ⟨some 20,.nilck (.t 19),none,false⟩,
  ⟨some 21,.faddr 3 (.t 20),none,false⟩,
  ⟨some 22,.load none (.t 21),none,false⟩,
  ⟨some 23,.len (.t 22),none,false⟩,
  ⟨some 24,.bin .geq (.t 23) (.v (.int .i64 256)),none,false⟩,
  ⟨some 18,.mv (.t 24),none,false⟩])
def pc147:SCode:=(.cond (.t 12) (.seq (.region false [⟨some 4,.mv (.v (.int .i64 8)),none,false⟩]) .ret) (.seq (.kp [0,3,18] pc146) (.cond (.t 18) (.seq (.region false [⟨some 4,.mv (.v (.int .i64 2)),none,false⟩]) .ret) .skip)))
def pc148:SCode:=(.kp [0,3] (.block 0 (.seq (.kp [0,3,6] pc144) (.cond (.t 6) (.seq (.region false [⟨some 4,.mv (.v (.int .i64 1)),none,false⟩]) .ret) (.seq (.kp [0,3,12] pc145) pc147)))))
def pc149:SCode:=(.region false [⟨some 25,.mv (.t 5),none,false⟩,
  ⟨some 26,.mv (.t 0),none,false⟩,
  ⟨some 27,.nilck (.t 26),none,false⟩,
  ⟨some 28,.faddr 3 (.t 27),none,false⟩,
  ⟨some 29,.load none (.t 28),none,false⟩,
  ⟨some 30,.len (.t 29),none,false⟩,
  ⟨some 31,.bin .lss (.t 25) (.t 30),none,false⟩])
def pc150:SCode:=(.region true [⟨some 34,.mv (.t 0),none,true⟩,
  ⟨some 35,.nilck (.t 34),none,true⟩,
  ⟨some 36,.faddr 3 (.t 35),none,true⟩,
  ⟨some 37,.load none (.t 36),none,true⟩,
  ⟨some 38,.mv (.t 5),none,true⟩,
  ⟨some 39,.iaddr 5 (.t 37) (.t 38),none,true⟩,
  ⟨some 40,.faddr 1 (.t 39),none,true⟩,
  ⟨some 41,.load (some 4) (.t 40),none,true⟩,
  ⟨some 42,.faddr 1 (.t 3),none,true⟩,
  ⟨some 43,.load (some 4) (.t 42),none,true⟩,
  ⟨some 44,.call f_ref04_share [(.t 41),(.t 43)],none,false⟩])
def pc151:SCode:=(.seq (.kp [0,3,5] (.block 2 (.seq (.kp [0,3,5,44] pc150) (.cond (.t 44) (.seq (.region false [⟨some 4,.mv (.v (.int .i64 6)),none,false⟩]) .ret) .skip)))) (.region false [⟨some 32,.mv (.t 5),none,false⟩,
  ⟨some 33,.bin .add (.t 32) (.v (.int .i64 1)),none,false⟩,
  ⟨some 5,.mv (.t 33),none,false⟩]))
def pc152:SCode:=(.seq (.kp [0,3,5] (.seq (.kp [0,3,5,31] pc149) (.cond (.t 31) .skip (.exit 1)))) pc151)
def pc153:SCode:=(.seq (.kp [] (.seq (.kp [0,3,5] (.region false [⟨some 5,.mv (.v (.int .i64 0)),none,false⟩])) (.block 1 (.loop (some [0,3,5]) pc152)))) (.seq (.region false [⟨some 4,.mv (.v (.int .i64 0)),none,false⟩]) .ret))
def s_ref04_May:SFn:=⟨2,[.t 4],(.seq (.region false [⟨some 3,.box true 5 (.t 1),none,false⟩,
  ⟨some 4,.mv (.v (.int .i64 0)),none,false⟩]) (.seq pc148 pc153))⟩
def pc154:SCode:=(.region false [⟨some 7,.mv (.t 0),none,false⟩,
  ⟨some 8,.load (some 5) (.t 3),none,false⟩,
  ⟨some 9,.call f_ref04_May [(.t 7),(.t 8)],none,false⟩,
  ⟨some 5,.mv (.t 9),none,false⟩])
def pc155:SCode:=(.seq (.region false [⟨some 10,.mv (.t 5),none,false⟩,
  ⟨some 11,.bin .neq (.t 10) (.v (.int .i64 0)),none,false⟩]) (.cond (.t 11) (.seq (.region false [⟨some 12,.mv (.t 5),none,false⟩,
  ⟨some 4,.mv (.t 12),none,false⟩]) .ret) .skip))
def pc156:SCode:=(.region true [⟨some 13,.mv (.t 0),none,true⟩,
  ⟨some 14,.mv (.t 0),none,true⟩,
  ⟨some 15,.nilck (.t 14),none,true⟩,
  ⟨some 16,.faddr 3 (.t 15),none,true⟩,
  ⟨some 17,.load none (.t 16),none,true⟩,
  ⟨some 18,.load (some 5) (.t 3),none,true⟩,
  ⟨some 19,.bslice [(.int .i64 0),(.int .i64 0),(.int .i64 0),(.int .i64 0),(.int .i64 0)] 1 5 [(0,5,(.t 18))],none,true⟩,
  ⟨some 20,.append 5 40 [(.int .i64 0),(.int .i64 0),(.int .i64 0),(.int .i64 0),(.int .i64 0)] [] (.t 17) (.t 19),none,false⟩,
  ⟨some 21,.nilck (.t 13),none,false⟩,
  ⟨some 22,.faddr 3 (.t 21),none,false⟩,
  ⟨none,.store 1 [] (.t 22) (.t 20),none,false⟩])
def pc157:SCode:=(.region false [⟨some 23,.mv (.t 0),none,false⟩,
  ⟨some 24,.nilck (.t 23),none,false⟩,
  ⟨some 25,.faddr 3 (.t 24),none,false⟩,
  ⟨some 26,.load none (.t 25),none,false⟩,
  ⟨some 27,.len (.t 26),none,false⟩,
  ⟨some 28,.bin .sub (.t 27) (.v (.int .i64 1)),none,false⟩,
  ⟨some 6,.mv (.t 28),none,false⟩])
def pc158:SCode:=(.region true [⟨some 29,.mv (.t 6),none,false⟩,
  ⟨some 30,.bin .gtr (.t 29) (.v (.int .i64 0)),none,false⟩,
  ⟨some 31,.mv (.t 30),none,false⟩,
  ⟨some 32,.mv (.t 0),(some (31,true)),true⟩,
  ⟨some 33,.nilck (.t 32),(some (31,true)),true⟩,
  ⟨some 34,.faddr 3 (.t 33),(some (31,true)),true⟩,
  ⟨some 35,.load none (.t 34),(some (31,true)),true⟩,
  ⟨some 36,.mv (.t 6),(some (31,true)),true⟩,
  ⟨some 37,.iaddr 5 (.t 35) (.t 36),(some (31,true)),true⟩,
  ⟨some 38,.faddr 0 (.t 37),(some (31,true)),true⟩,
  ⟨some 39,.load none (.t 38),(some (31,true)),true⟩,
  ⟨some 40,.mv (.t 0),(some (31,true)),true⟩,
  ⟨some 41,.nilck (.t 40),(some (31,true)),true⟩,
  ⟨some 42,.faddr 3 (.t 41),(some (31,true)),true⟩,
  ⟨some 43,.load none (.t 42),(some (31,true)),true⟩,
  ⟨some 44,.mv (.t 6),(some (31,true)),true⟩,
  ⟨some 45,.bin .sub (.t 44) (.v (.int .i64 1)),(some (31,true)),true⟩,
  ⟨some 46,.iaddr 5 (.t 43) (.t 45),(some (31,true)),true⟩,
  ⟨some 47,.faddr 0 (.t 46),(some (31,true)),true⟩,
  ⟨some 48,.load none (.t 47),(some (31,true)),true⟩,
  ⟨some 49,.bin .lss (.t 39) (.t 48),(some (31,true)),false⟩,
  ⟨some 50,.pick (.t 31) (.t 49) (.v (.bool false)),none,false⟩])
def pc159:SCode:=(.region true [⟨some 53,.mv (.t 0),none,true⟩,
  ⟨some 54,.nilck (.t 53),none,true⟩,
  ⟨some 55,.faddr 3 (.t 54),none,true⟩,
  ⟨some 56,.load none (.t 55),none,true⟩,
  ⟨some 57,.mv (.t 6),none,true⟩,
  ⟨some 58,.mv (.t 0),none,true⟩,
  ⟨some 59,.nilck (.t 58),none,true⟩,
  ⟨some 60,.faddr 3 (.t 59),none,true⟩,
  ⟨some 61,.load none (.t 60),none,true⟩,
  ⟨some 62,.mv (.t 6),none,true⟩,
  ⟨some 63,.bin .sub (.t 62) (.v (.int .i64 1)),none,true⟩,
  ⟨some 64,.mv (.t 0),none,true⟩,
  ⟨some 65,.nilck (.t 64),none,true⟩,
  ⟨some 66,.faddr 3 (.t 65),none,true⟩,
  ⟨some 67,.load none (.t 66),none,true⟩,
  ⟨some 68,.mv (.t 6),none,true⟩,
  ⟨some 69,.bin .sub (.t 68) (.v (.int .i64 1)),none,true⟩,
  ⟨some 70,.iaddr 5 (.t 67) (.t 69),none,true⟩,
  ⟨some 71,.load (some 5) (.t 70),none,true⟩,
  ⟨some 72,.mv (.t 0),none,true⟩,
  ⟨some 73,.nilck (.t 72),none,true⟩,
  ⟨some 74,.faddr 3 (.t 73),none,true⟩,
  ⟨some 75,.load none (.t 74),none,true⟩,
  ⟨some 76,.mv (.t 6),none,true⟩,
  ⟨some 77,.iaddr 5 (.t 75) (.t 76),none,true⟩,
  ⟨some 78,.load (some 5) (.t 77),none,true⟩,
  ⟨some 79,.iaddr 5 (.t 56) (.t 57),none,false⟩,
  ⟨none,.store 5 [] (.t 79) (.t 71),none,false⟩,
  ⟨some 80,.iaddr 5 (.t 61) (.t 63),none,false⟩,
  ⟨none,.store 5 [] (.t 80) (.t 78),none,false⟩])
def pc160:SCode:=(.seq (.kp [0,3,6] (.block 1 pc159)) (.region false [⟨some 51,.mv (.t 6),none,false⟩,
  ⟨some 52,.bin .sub (.t 51) (.v (.int .i64 1)),none,false⟩,
  ⟨some 6,.mv (.t 52),none,false⟩]))
def pc161:SCode:=(.seq (.kp [0,3,6] (.seq (.kp [0,3,6,50] pc158) (.cond (.t 50) .skip (.exit 0)))) pc160)
def pc162:SCode:=(.region true [⟨some 81,.mv (.t 0),none,true⟩,
  ⟨some 82,.mv (.t 0),none,true⟩,
  ⟨some 83,.nilck (.t 82),none,true⟩,
  ⟨some 84,.faddr 4 (.t 83),none,true⟩,
  ⟨some 85,.load none (.t 84),none,true⟩,
  ⟨some 86,.faddr 1 (.t 3),none,true⟩,
  ⟨some 87,.load (some 4) (.t 86),none,true⟩,
  ⟨some 88,.bslice [(.int .i64 0),(.int .i64 0),(.int .i64 0),(.int .i64 0)] 1 4 [(0,4,(.t 87))],none,true⟩,
  ⟨some 89,.append 4 32 [(.int .i64 0),(.int .i64 0),(.int .i64 0),(.int .i64 0)] [] (.t 85) (.t 88),none,false⟩,
  ⟨some 90,.nilck (.t 81),none,false⟩,
  ⟨some 91,.faddr 4 (.t 90),none,false⟩,
  ⟨none,.store 1 [] (.t 91) (.t 89),none,false⟩])
def pc163:SCode:=(.seq (.kp [0,3] (.seq (.kp [0,3,6] pc157) (.block 0 (.loop (some [0,3,6]) pc161)))) (.seq (.kp [] pc162) (.seq (.region false [⟨some 4,.mv (.v (.int .i64 0)),none,false⟩]) .ret)))
def pc164:SCode:=(.seq (.region false [⟨some 3,.box true 5 (.t 1),none,false⟩,
  ⟨some 4,.mv (.v (.int .i64 0)),none,false⟩]) (.seq pc154 (.seq (.kp [0,3] pc155) (.seq (.kp [0,3] pc156) pc163))))
def s_ref04_Place:SFn:=⟨2,[.t 4],pc164⟩
def pc165:SCode:=(.region false [⟨some 9,.mv (.t 0),none,false⟩,
  ⟨some 10,.mv (.t 1),none,false⟩,
  ⟨some 11,.call f_ref04_place [(.t 9),(.t 10)],none,false⟩,
  ⟨some 6,.mv (.t 11),none,false⟩])
def pc166:SCode:=(.region false [⟨some 14,.build [(.int .i64 0),(.int .i64 0),(.int .i64 0),(.int .i64 0)] [],none,false⟩,
  ⟨none,.store 4 [] (.t 4) (.t 14),none,false⟩,
  ⟨some 5,.mv (.v (.int .i64 4)),none,false⟩])
def pc167:SCode:=(.region false [⟨some 15,.mv (.t 0),none,false⟩,
  ⟨some 16,.nilck (.t 15),none,false⟩,
  ⟨some 17,.faddr 3 (.t 16),none,false⟩,
  ⟨some 18,.load none (.t 17),none,false⟩,
  ⟨some 19,.mv (.t 6),none,false⟩,
  ⟨some 20,.iaddr 5 (.t 18) (.t 19),none,false⟩,
  ⟨some 21,.faddr 1 (.t 20),none,false⟩,
  ⟨some 22,.load (some 4) (.t 21),none,false⟩,
  ⟨some 7,.alloc true [(.int .i64 0),(.int .i64 0),(.int .i64 0),(.int .i64 0)],none,false⟩,
  ⟨none,.store 4 [] (.t 7) (.t 22),none,false⟩])
def pc168:SCode:=(.region false [⟨some 23,.mv (.t 8),none,false⟩,
  ⟨some 24,.mv (.t 0),none,false⟩,
  ⟨some 25,.nilck (.t 24),none,false⟩,
  ⟨some 26,.faddr 3 (.t 25),none,false⟩,
  ⟨some 27,.load none (.t 26),none,false⟩,
  ⟨some 28,.mv (.t 6),none,false⟩,
  ⟨some 29,.slice 5 (.t 27) none (some (.t 28)) none,none,false⟩,
  ⟨some 30,.append 5 40 [(.int .i64 0),(.int .i64 0),(.int .i64 0),(.int .i64 0),(.int .i64 0)] [] (.t 23) (.t 29),none,false⟩,
  ⟨some 8,.mv (.t 30),none,false⟩])
def pc169:SCode:=(.region false [⟨some 31,.mv (.t 0),none,false⟩,
  ⟨some 32,.mv (.t 8),none,false⟩,
  ⟨some 33,.mv (.t 0),none,false⟩,
  ⟨some 34,.nilck (.t 33),none,false⟩,
  ⟨some 35,.faddr 3 (.t 34),none,false⟩,
  ⟨some 36,.load none (.t 35),none,false⟩,
  ⟨some 37,.mv (.t 6),none,false⟩,
  ⟨some 38,.bin .add (.t 37) (.v (.int .i64 1)),none,false⟩,
  ⟨some 39,.slice 5 (.t 36) (some (.t 38)) none none,none,false⟩,
  ⟨some 40,.append 5 40 [(.int .i64 0),(.int .i64 0),(.int .i64 0),(.int .i64 0),(.int .i64 0)] [] (.t 32) (.t 39),none,false⟩,
  ⟨some 41,.nilck (.t 31),none,false⟩,
  ⟨some 42,.faddr 3 (.t 41),none,false⟩,
  ⟨none,.store 1 [] (.t 42) (.t 40),none,false⟩])
def pc170:SCode:=(.region true [⟨some 43,.mv (.t 0),none,true⟩,
  ⟨some 44,.mv (.t 0),none,true⟩,
  ⟨some 45,.nilck (.t 44),none,true⟩,
  ⟨some 46,.faddr 4 (.t 45),none,true⟩,
  ⟨some 47,.load none (.t 46),none,true⟩,
  ⟨some 48,.load (some 4) (.t 7),none,true⟩,
  ⟨some 49,.bslice [(.int .i64 0),(.int .i64 0),(.int .i64 0),(.int .i64 0)] 1 4 [(0,4,(.t 48))],none,true⟩,
  ⟨some 50,.append 4 32 [(.int .i64 0),(.int .i64 0),(.int .i64 0),(.int .i64 0)] [] (.t 47) (.t 49),none,false⟩,
  ⟨some 51,.nilck (.t 43),none,false⟩,
  ⟨some 52,.faddr 4 (.t 51),none,false⟩,
  ⟨none,.store 1 [] (.t 52) (.t 50),none,false⟩])
def pc171:SCode:=(.seq (.kp [4,7] pc170) (.seq (.region false [⟨some 53,.load (some 4) (.t 7),none,false⟩,
  ⟨none,.store 4 [] (.t 4) (.t 53),none,false⟩,
  ⟨some 5,.mv (.v (.int .i64 0)),none,false⟩]) .ret))
def pc172:SCode:=(.seq (.kp [0,4,6] (.seq (.region false [⟨some 12,.mv (.t 6),none,false⟩,
  ⟨some 13,.bin .lss (.t 12) (.v (.int .i64 0)),none,false⟩]) (.cond (.t 13) (.seq pc166 .ret) .skip))) (.seq (.kp [0,4,6,7] pc167) (.seq (.region false [⟨some 8,.mv (.v .nils),none,false⟩]) (.seq (.kp [0,4,6,7,8] pc168) (.seq (.kp [0,4,7] pc169) pc171)))))
def pc173:SCode:=(.seq (.region false [⟨some 4,.alloc true [(.int .i64 0),(.int .i64 0),(.int .i64 0),(.int .i64 0)],none,false⟩,
  ⟨some 5,.mv (.v (.int .i64 0)),none,false⟩]) (.seq pc165 pc172))
def s_ref04_Raze:SFn:=⟨2,[.cell 4 (some 4),.t 5],pc173⟩
def pc174:SCode:=(.region false [⟨some 8,.mv (.t 0),none,false⟩,
  ⟨some 9,.faddr 1 (.t 5),none,false⟩,
  ⟨some 10,.faddr 0 (.t 9),none,false⟩,
  ⟨some 11,.load none (.t 10),none,false⟩,
  ⟨some 12,.call f_grid_World_Raze [(.t 8),(.t 11)],none,false⟩])
def pc175:SCode:=(.region false [⟨some 13,.mv (.t 1),none,false⟩,
  ⟨some 14,.faddr 1 (.t 5),none,false⟩,
  ⟨some 15,.faddr 0 (.t 14),none,false⟩,
  ⟨some 16,.load none (.t 15),none,false⟩,
  ⟨some 17,.call f_ref04_Raze [(.t 13),(.t 16)],none,false⟩])
def pc176:SCode:=(.seq (.region false [⟨some 6,.faddr 0 (.t 5),none,false⟩,
  ⟨some 7,.load none (.t 6),none,false⟩]) (.cond (.t 7) (.seq (.kp [1,5] pc174) (.seq (.kp [] pc175) .ret)) .skip))
def pc177:SCode:=(.region false [⟨some 18,.mv (.t 0),none,false⟩,
  ⟨some 19,.faddr 1 (.t 5),none,false⟩,
  ⟨some 20,.load (some 5) (.t 19),none,false⟩,
  ⟨some 21,.call f_grid_World_Place [(.t 18),(.t 20)],none,false⟩])
def pc178:SCode:=(.region false [⟨some 22,.mv (.t 1),none,false⟩,
  ⟨some 23,.faddr 1 (.t 5),none,false⟩,
  ⟨some 24,.load (some 5) (.t 23),none,false⟩,
  ⟨some 25,.call f_ref04_Place [(.t 22),(.t 24)],none,false⟩])
def s_law07_Does:SFn:=⟨3,[],(.seq (.region false [⟨some 5,.box true 6 (.t 2),none,false⟩]) (.seq (.kp [0,1,5] pc176) (.seq pc177 pc178)))⟩
def pc179:SCode:=(.region false [⟨some 3,.faddr 0 (.t 1),none,false⟩,
  ⟨some 4,.load none (.t 3),none,false⟩,
  ⟨some 5,.bin .geq (.t 4) (.v (.int .i64 0)),none,false⟩,
  ⟨some 6,.mv (.t 5),none,false⟩,
  ⟨some 7,.faddr 0 (.t 1),(some (6,true)),false⟩,
  ⟨some 8,.load none (.t 7),(some (6,true)),false⟩,
  ⟨some 9,.bin .lss (.t 8) (.v (.int .i64 4)),(some (6,true)),false⟩,
  ⟨some 10,.pick (.t 6) (.t 9) (.v (.bool false)),none,false⟩,
  ⟨some 11,.mv (.t 10),none,false⟩,
  ⟨some 12,.faddr 1 (.t 1),(some (11,true)),false⟩,
  ⟨some 13,.load none (.t 12),(some (11,true)),false⟩,
  ⟨some 14,.bin .geq (.t 13) (.v (.int .i64 1)),(some (11,true)),false⟩,
  ⟨some 15,.pick (.t 11) (.t 14) (.v (.bool false)),none,false⟩,
  ⟨some 16,.mv (.t 15),none,false⟩,
  ⟨some 17,.faddr 1 (.t 1),(some (16,true)),false⟩,
  ⟨some 18,.load none (.t 17),(some (16,true)),false⟩,
  ⟨some 19,.bin .leq (.t 18) (.v (.int .i64 4)),(some (16,true)),false⟩,
  ⟨some 20,.pick (.t 16) (.t 19) (.v (.bool false)),none,false⟩,
  ⟨some 2,.mv (.t 20),none,false⟩])
def s_class_May:SFn:=⟨1,[.t 2],(.seq (.region false [⟨some 1,.box true 2 (.t 0),none,false⟩,
  ⟨some 2,.mv (.v (.bool false)),none,false⟩]) (.seq (.kp [2] pc179) .ret))⟩
def pc180:SCode:=(.region true [⟨some 5,.mv (.t 0),none,false⟩,
  ⟨some 6,.eq false false [.ptr] (.t 5) (.v .nilp),none,false⟩,
  ⟨some 7,.mv (.t 6),none,false⟩,
  ⟨some 8,.mv (.t 0),(some (7,false)),true⟩,
  ⟨some 9,.nilck (.t 8),(some (7,false)),true⟩,
  ⟨some 10,.faddr 2 (.t 9),(some (7,false)),true⟩,
  ⟨some 11,.load (some 4) (.t 10),(some (7,false)),true⟩,
  ⟨some 12,.load (some 2) (.t 3),(some (7,false)),true⟩,
  ⟨some 13,.call f_cell_Has [(.t 11),(.t 12)],(some (7,false)),false⟩,
  ⟨some 14,.un .not (.t 13),(some (7,false)),false⟩,
  ⟨some 15,.pick (.t 7) (.v (.bool true)) (.t 14),none,false⟩])
def pc181:SCode:=(.region true [⟨some 16,.mv (.t 0),none,true⟩,
  ⟨some 17,.nilck (.t 16),none,true⟩,
  ⟨some 18,.faddr 6 (.t 17),none,true⟩,
  ⟨some 19,.load none (.t 18),none,true⟩,
  ⟨some 20,.faddr 1 (.t 3),none,true⟩,
  ⟨some 21,.load none (.t 20),none,true⟩,
  ⟨some 22,.mv (.t 0),none,true⟩,
  ⟨some 23,.nilck (.t 22),none,true⟩,
  ⟨some 24,.faddr 2 (.t 23),none,true⟩,
  ⟨some 25,.faddr 2 (.t 24),none,true⟩,
  ⟨some 26,.load none (.t 25),none,true⟩,
  ⟨some 27,.bin .mul (.t 21) (.t 26),none,true⟩,
  ⟨some 28,.faddr 0 (.t 3),none,true⟩,
  ⟨some 29,.load none (.t 28),none,true⟩,
  ⟨some 30,.bin .add (.t 27) (.t 29),none,true⟩,
  ⟨some 31,.iaddr 1 (.t 19) (.t 30),none,false⟩,
  ⟨some 32,.load none (.t 31),none,false⟩,
  ⟨some 4,.mv (.t 32),none,false⟩])
def pc182:SCode:=(.seq (.region false [⟨some 3,.box true 2 (.t 1),none,false⟩,
  ⟨some 4,.mv (.v (.int .i64 0)),none,false⟩]) (.seq (.kp [0,3] (.seq (.kp [0,3,15] pc180) (.cond (.t 15) (.seq (.region false [⟨some 4,.mv (.v (.int .i64 0)),none,false⟩]) .ret) .skip))) (.seq (.kp [4] pc181) .ret)))
def s_clear_Field_At:SFn:=⟨2,[.t 4],pc182⟩
def pc183:SCode:=(.region false [⟨some 2,.box true 2 (.t 0),none,false⟩,
  ⟨some 3,.box true 2 (.t 1),none,false⟩,
  ⟨some 4,.alloc true [(.int .i64 0),(.int .i64 0),(.int .i64 0),(.int .i64 0)],none,false⟩])
def pc184:SCode:=(.region false [⟨some 6,.load (some 2) (.t 3),none,false⟩,
  ⟨some 7,.faddr 1 (.t 2),none,false⟩,
  ⟨some 8,.load none (.t 7),none,false⟩,
  ⟨some 9,.faddr 1 (.t 2),none,false⟩,
  ⟨some 10,.load none (.t 9),none,false⟩,
  ⟨some 11,.build [(.int .i64 0),(.int .i64 0),(.int .i64 0),(.int .i64 0)] [(0,2,(.t 6)),(2,1,(.t 8)),(3,1,(.t 10))],none,false⟩,
  ⟨some 5,.alloc true [(.int .i64 0),(.int .i64 0),(.int .i64 0),(.int .i64 0)],none,false⟩,
  ⟨none,.store 4 [] (.t 5) (.t 11),none,false⟩])
def pc185:SCode:=(.region false [⟨some 12,.load (some 2) (.t 2),none,false⟩,
  ⟨some 13,.call f_class_May [(.t 12)],none,false⟩,
  ⟨some 14,.un .not (.t 13),none,false⟩,
  ⟨some 15,.mv (.t 14),none,false⟩,
  ⟨some 16,.load (some 4) (.t 5),(some (15,false)),false⟩,
  ⟨some 17,.call f_cell_May [(.t 16)],(some (15,false)),false⟩,
  ⟨some 18,.un .not (.t 17),(some (15,false)),false⟩,
  ⟨some 19,.pick (.t 15) (.v (.bool true)) (.t 18),none,false⟩])
def pc186:SCode:=(.cond (.t 19) (.seq (.region false [⟨some 20,.build [(.int .i64 0),(.int .i64 0),(.int .i64 0),(.int .i64 0)] [],none,false⟩,
  ⟨none,.store 4 [] (.t 4) (.t 20),none,false⟩]) .ret) .skip)
def pc187:SCode:=(.seq (.kp [4,5] (.seq (.kp [4,5,19] pc185) pc186)) (.seq (.region false [⟨some 21,.load (some 4) (.t 5),none,false⟩,
  ⟨none,.store 4 [] (.t 4) (.t 21),none,false⟩]) .ret))
def s_class_Foot:SFn:=⟨2,[.cell 4 (some 4)],(.seq pc183 (.seq (.kp [2,4,5] pc184) pc187))⟩
def pc188:SCode:=(.region false [⟨some 6,.build [(.int .i64 0),(.int .i64 0),(.int .i64 0),(.int .i64 0)] [(0,1,(.v (.int .i64 3))),(1,1,(.v (.int .i64 1))),(2,1,(.v (.int .i64 4))),(3,1,(.v (.int .i64 5)))],none,false⟩,
  ⟨some 5,.alloc true [(.int .i64 0),(.int .i64 0),(.int .i64 0),(.int .i64 0)],none,false⟩,
  ⟨none,.store 4 [] (.t 5) (.t 6),none,false⟩])
def pc189:SCode:=(.region false [⟨some 7,.mv (.t 0),none,false⟩,
  ⟨some 8,.bin .geq (.t 7) (.v (.int .i64 0)),none,false⟩,
  ⟨some 9,.mv (.t 8),none,false⟩,
  ⟨some 10,.mv (.t 0),(some (9,true)),false⟩,
  ⟨some 11,.bin .lss (.t 10) (.v (.int .i64 4)),(some (9,true)),false⟩,
  ⟨some 12,.pick (.t 9) (.t 11) (.v (.bool false)),none,false⟩,
  ⟨some 13,.mv (.t 12),none,false⟩,
  ⟨some 14,.mv (.t 1),(some (13,true)),false⟩,
  ⟨some 15,.bin .geq (.t 14) (.v (.int .i64 0)),(some (13,true)),false⟩,
  ⟨some 16,.pick (.t 13) (.t 15) (.v (.bool false)),none,false⟩,
  ⟨some 17,.mv (.t 16),none,false⟩,
  ⟨some 18,.mv (.t 1),(some (17,true)),false⟩,
  ⟨some 19,.bin .lss (.t 18) (.v (.int .i64 4)),(some (17,true)),false⟩,
  ⟨some 20,.pick (.t 17) (.t 19) (.v (.bool false)),none,false⟩,
  ⟨some 21,.mv (.t 20),none,false⟩,
  ⟨some 22,.mv (.t 0),(some (21,true)),false⟩,
  ⟨some 23,.iaddrA 4 1 (.t 5) (.t 22),(some (21,true)),false⟩,
  ⟨some 24,.load none (.t 23),(some (21,true)),false⟩,
  ⟨some 25,.mv (.t 1),(some (21,true)),false⟩,
  ⟨some 26,.bin .shr (.t 24) (.t 25),(some (21,true)),false⟩,
  ⟨some 27,.bin .and (.t 26) (.v (.int .i64 1)),(some (21,true)),false⟩,
  ⟨some 28,.bin .eql (.t 27) (.v (.int .i64 1)),(some (21,true)),false⟩,
  ⟨some 29,.pick (.t 21) (.t 28) (.v (.bool false)),none,false⟩,
  ⟨some 4,.mv (.t 29),none,false⟩])
def s_class_On:SFn:=⟨2,[.t 4],(.seq (.region false [⟨some 4,.mv (.v (.bool false)),none,false⟩]) (.seq pc188 (.seq (.kp [4] pc189) .ret)))⟩
def pc190:SCode:=(.seq (.region false [⟨some 8,.mv (.t 0),none,false⟩,
  ⟨some 9,.call f_grid_World_is [(.t 8)],none,false⟩,
  ⟨some 10,.un .not (.t 9),none,false⟩]) (.cond (.t 10) (.seq (.region false [⟨some 4,.mv (.v (.int .i64 0)),none,false⟩,
  ⟨some 5,.mv (.v (.bool false)),none,false⟩]) .ret) .skip))
def pc191:SCode:=(.region true [⟨some 12,.mv (.t 0),none,true⟩,
  ⟨some 13,.nilck (.t 12),none,true⟩,
  ⟨some 14,.faddr 4 (.t 13),none,true⟩,
  ⟨some 15,.load none (.t 14),none,true⟩,
  ⟨some 16,.load (some 2) (.t 3),none,true⟩,
  ⟨some 17,.lookup true [.int,.int] (.int .i64 0) true (.t 15) (.t 16),none,false⟩,
  ⟨some 11,.mv (.t 17),none,false⟩,
  ⟨some 18,.ext (.t 11) 0,none,false⟩,
  ⟨some 19,.ext (.t 11) 1,none,false⟩,
  ⟨some 6,.mv (.t 18),none,false⟩,
  ⟨some 7,.mv (.t 19),none,false⟩])
def pc192:SCode:=(.seq (.kp [6,7] pc191) (.seq (.region false [⟨some 20,.mv (.t 6),none,false⟩,
  ⟨some 21,.mv (.t 7),none,false⟩,
  ⟨some 4,.mv (.t 20),none,false⟩,
  ⟨some 5,.mv (.t 21),none,false⟩]) .ret))
def pc193:SCode:=(.seq (.region false [⟨some 3,.box true 2 (.t 1),none,false⟩,
  ⟨some 4,.mv (.v (.int .i64 0)),none,false⟩,
  ⟨some 5,.mv (.v (.bool false)),none,false⟩]) (.seq (.kp [0,3] pc190) pc192))
def s_grid_World_At:SFn:=⟨2,[.t 4,.t 5],pc193⟩
def pc194:SCode:=(.region true [⟨some 6,.mv (.t 0),none,true⟩,
  ⟨some 8,.load (some 2) (.t 3),none,true⟩,
  ⟨some 7,.call f_grid_World_All [(.t 6)],none,true⟩,
  ⟨some 9,.call f_cell_Has [(.t 7),(.t 8)],none,false⟩,
  ⟨some 10,.un .not (.t 9),none,false⟩])
def pc195:SCode:=(.kp [0,3] (.seq (.kp [0,3,10] pc194) (.cond (.t 10) (.seq (.region false [⟨some 4,.mv (.v (.int .i64 0)),none,false⟩,
  ⟨some 5,.mv (.v (.bool false)),none,false⟩]) .ret) .skip)))
def pc196:SCode:=(.region true [⟨some 11,.mv (.t 0),none,true⟩,
  ⟨some 12,.nilck (.t 11),none,true⟩,
  ⟨some 13,.faddr 2 (.t 12),none,true⟩,
  ⟨some 14,.load none (.t 13),none,true⟩,
  ⟨some 15,.faddr 1 (.t 3),none,true⟩,
  ⟨some 16,.load none (.t 15),none,true⟩,
  ⟨some 17,.mv (.t 0),none,true⟩,
  ⟨some 18,.nilck (.t 17),none,true⟩,
  ⟨some 19,.faddr 0 (.t 18),none,true⟩,
  ⟨some 20,.load none (.t 19),none,true⟩,
  ⟨some 21,.bin .mul (.t 16) (.t 20),none,true⟩,
  ⟨some 22,.faddr 0 (.t 3),none,true⟩,
  ⟨some 23,.load none (.t 22),none,true⟩,
  ⟨some 24,.bin .add (.t 21) (.t 23),none,true⟩,
  ⟨some 25,.iaddr 1 (.t 14) (.t 24),none,false⟩,
  ⟨some 26,.load none (.t 25),none,false⟩,
  ⟨some 27,.conv .i64 (.t 26),none,false⟩,
  ⟨some 4,.mv (.t 27),none,false⟩,
  ⟨some 5,.mv (.v (.bool true)),none,false⟩])
def pc197:SCode:=(.seq (.region false [⟨some 3,.box true 2 (.t 1),none,false⟩,
  ⟨some 4,.mv (.v (.int .i64 0)),none,false⟩,
  ⟨some 5,.mv (.v (.bool false)),none,false⟩]) (.seq pc195 (.seq (.kp [4,5] pc196) .ret)))
def s_grid_World_Terrain:SFn:=⟨2,[.t 4,.t 5],pc197⟩
def pc198:SCode:=(.region false [⟨some 3,.box true 1 (.t 0),none,false⟩,
  ⟨some 4,.box true 2 (.t 1),none,false⟩,
  ⟨some 5,.box true 2 (.t 2),none,false⟩,
  ⟨some 6,.alloc true [(.bool false)],none,false⟩])
def pc199:SCode:=(.region false [⟨some 13,.load (some 2) (.t 4),none,false⟩,
  ⟨some 14,.load (some 2) (.t 5),none,false⟩,
  ⟨some 15,.call f_class_Foot [(.t 13),(.t 14)],none,false⟩,
  ⟨some 7,.alloc true [(.int .i64 0),(.int .i64 0),(.int .i64 0),(.int .i64 0)],none,false⟩,
  ⟨none,.store 4 [] (.t 7) (.t 15),none,false⟩])
def pc200:SCode:=(.region true [⟨some 16,.load (some 4) (.t 7),none,true⟩,
  ⟨some 17,.load none (.t 3),none,true⟩,
  ⟨some 18,.call f_grid_World_All [(.t 17)],none,true⟩,
  ⟨some 19,.call f_cell_Within [(.t 16),(.t 18)],none,false⟩,
  ⟨some 20,.un .not (.t 19),none,false⟩])
def pc201:SCode:=(.region false [⟨some 8,.alloc true [(.int .i64 0),(.int .i64 0)],none,false⟩,
  ⟨none,.store 2 [] (.t 8) (.t 23),none,false⟩])
def pc202:SCode:=(.region false [⟨some 25,.load none (.t 3),none,false⟩,
  ⟨some 26,.load (some 2) (.t 8),none,false⟩,
  ⟨some 27,.call f_grid_World_Terrain [(.t 25),(.t 26)],none,false⟩,
  ⟨some 24,.mv (.t 27),none,false⟩,
  ⟨some 28,.ext (.t 24) 0,none,false⟩,
  ⟨some 29,.ext (.t 24) 1,none,false⟩,
  ⟨some 9,.mv (.t 28),none,false⟩,
  ⟨some 10,.mv (.t 29),none,false⟩])
def pc203:SCode:=(.region false [⟨some 31,.load none (.t 3),none,false⟩,
  ⟨some 32,.load (some 2) (.t 8),none,false⟩,
  ⟨some 33,.call f_grid_World_At [(.t 31),(.t 32)],none,false⟩,
  ⟨some 30,.mv (.t 33),none,false⟩,
  ⟨some 34,.ext (.t 30) 0,none,false⟩,
  ⟨some 35,.ext (.t 30) 1,none,false⟩,
  ⟨some 11,.mv (.t 34),none,false⟩,
  ⟨some 12,.mv (.t 35),none,false⟩])
def pc204:SCode:=(.region false [⟨some 36,.mv (.t 12),none,false⟩,
  ⟨some 37,.mv (.t 36),none,false⟩,
  ⟨some 38,.faddr 0 (.t 4),(some (37,false)),false⟩,
  ⟨some 39,.load none (.t 38),(some (37,false)),false⟩,
  ⟨some 40,.mv (.t 9),(some (37,false)),false⟩,
  ⟨some 41,.call f_class_On [(.t 39),(.t 40)],(some (37,false)),false⟩,
  ⟨some 42,.un .not (.t 41),(some (37,false)),false⟩,
  ⟨some 43,.pick (.t 37) (.v (.bool true)) (.t 42),none,false⟩])
def pc205:SCode:=(.seq (.kp [3,4,6,8,9] pc202) (.seq (.kp [4,6,9,12] pc203) (.seq (.kp [6,43] pc204) (.cond (.t 43) (.seq (.region false [⟨none,.store 1 [] (.t 6) (.v (.bool false)),none,false⟩]) .ret) .skip))))
def pc206:SCode:=(.block 1 pc205)
def pc207:SCode:=(.seq (.kp [3,4,6,22] (.region false [⟨some 21,.load (some 4) (.t 7),none,false⟩,
  ⟨some 22,.call f_cell_Cells [(.t 21)],none,false⟩])) (.block 0 (.rangef (.t 22) [23] pc201 pc206)))
def pc208:SCode:=(.seq (.kp [3,4,6,7] (.seq (.kp [3,4,6,7,20] pc200) (.cond (.t 20) (.seq (.region false [⟨none,.store 1 [] (.t 6) (.v (.bool false)),none,false⟩]) .ret) .skip))) (.seq (.kp [6] pc207) (.seq (.region false [⟨none,.store 1 [] (.t 6) (.v (.bool true)),none,false⟩]) .ret)))
def s_class_Stands:SFn:=⟨3,[.cell 6 none],(.seq pc198 (.seq (.kp [3,4,6,7] pc199) pc208))⟩
def pc209:SCode:=(.region true [⟨some 5,.mv (.t 0),none,true⟩,
  ⟨some 6,.nilck (.t 5),none,true⟩,
  ⟨some 7,.faddr 0 (.t 6),none,true⟩,
  ⟨some 8,.load none (.t 7),none,true⟩,
  ⟨some 9,.mv (.t 0),none,true⟩,
  ⟨some 10,.nilck (.t 9),none,true⟩,
  ⟨some 11,.faddr 1 (.t 10),none,true⟩,
  ⟨some 12,.load none (.t 11),none,true⟩,
  ⟨some 13,.build [(.int .i64 0),(.int .i64 0)] [(0,1,(.t 12)),(1,1,(.v (.int .i64 1)))],none,true⟩,
  ⟨some 14,.load (some 2) (.t 3),none,true⟩,
  ⟨some 15,.call f_class_Stands [(.t 8),(.t 13),(.t 14)],none,false⟩,
  ⟨some 4,.mv (.t 15),none,false⟩])
def s_clear_Field_tile:SFn:=⟨2,[.t 4],(.seq (.region false [⟨some 3,.box true 2 (.t 1),none,false⟩,
  ⟨some 4,.mv (.v (.bool false)),none,false⟩]) (.seq (.kp [4] pc209) .ret))⟩
def pc210:SCode:=(.region false [⟨some 11,.faddr 0 (.t 3),none,false⟩,
  ⟨some 12,.faddr 1 (.t 11),none,false⟩,
  ⟨some 13,.load none (.t 12),none,false⟩,
  ⟨some 14,.faddr 3 (.t 3),none,false⟩,
  ⟨some 15,.load none (.t 14),none,false⟩,
  ⟨some 16,.bin .add (.t 13) (.t 15),none,false⟩,
  ⟨some 17,.bin .sub (.t 16) (.v (.int .i64 1)),none,false⟩,
  ⟨some 6,.mv (.t 17),none,false⟩])
def pc211:SCode:=(.region false [⟨some 18,.mv (.t 6),none,false⟩,
  ⟨some 19,.faddr 0 (.t 3),none,false⟩,
  ⟨some 20,.faddr 1 (.t 19),none,false⟩,
  ⟨some 21,.load none (.t 20),none,false⟩,
  ⟨some 22,.bin .geq (.t 18) (.t 21),none,false⟩])
def pc212:SCode:=(.region false [⟨some 25,.faddr 0 (.t 3),none,false⟩,
  ⟨some 26,.faddr 0 (.t 25),none,false⟩,
  ⟨some 27,.load none (.t 26),none,false⟩,
  ⟨some 28,.faddr 2 (.t 3),none,false⟩,
  ⟨some 29,.load none (.t 28),none,false⟩,
  ⟨some 30,.bin .add (.t 27) (.t 29),none,false⟩,
  ⟨some 31,.bin .sub (.t 30) (.v (.int .i64 1)),none,false⟩,
  ⟨some 7,.mv (.t 31),none,false⟩])
def pc213:SCode:=(.region false [⟨some 32,.mv (.t 7),none,false⟩,
  ⟨some 33,.faddr 0 (.t 3),none,false⟩,
  ⟨some 34,.faddr 0 (.t 33),none,false⟩,
  ⟨some 35,.load none (.t 34),none,false⟩,
  ⟨some 36,.bin .geq (.t 32) (.t 35),none,false⟩])
def pc214:SCode:=(.region false [⟨some 39,.mv (.t 7),none,false⟩,
  ⟨some 40,.mv (.t 6),none,false⟩,
  ⟨some 41,.build [(.int .i64 0),(.int .i64 0)] [(0,1,(.t 39)),(1,1,(.t 40))],none,false⟩,
  ⟨some 8,.alloc true [(.int .i64 0),(.int .i64 0)],none,false⟩,
  ⟨none,.store 2 [] (.t 8) (.t 41),none,false⟩])
def pc215:SCode:=(.region false [⟨some 45,.mv (.t 0),none,false⟩,
  ⟨some 46,.mv (.t 7),none,false⟩,
  ⟨some 47,.bin .add (.t 46) (.v (.int .i64 1)),none,false⟩,
  ⟨some 48,.mv (.t 6),none,false⟩,
  ⟨some 49,.build [(.int .i64 0),(.int .i64 0)] [(0,1,(.t 47)),(1,1,(.t 48))],none,false⟩,
  ⟨some 50,.call f_clear_Field_At [(.t 45),(.t 49)],none,false⟩,
  ⟨some 51,.mv (.t 0),none,false⟩,
  ⟨some 52,.mv (.t 7),none,false⟩,
  ⟨some 53,.mv (.t 6),none,false⟩,
  ⟨some 54,.bin .add (.t 53) (.v (.int .i64 1)),none,false⟩,
  ⟨some 55,.build [(.int .i64 0),(.int .i64 0)] [(0,1,(.t 52)),(1,1,(.t 54))],none,false⟩,
  ⟨some 56,.call f_clear_Field_At [(.t 51),(.t 55)],none,false⟩,
  ⟨some 57,.mv (.t 0),none,false⟩,
  ⟨some 58,.mv (.t 7),none,false⟩,
  ⟨some 59,.bin .add (.t 58) (.v (.int .i64 1)),none,false⟩,
  ⟨some 60,.mv (.t 6),none,false⟩,
  ⟨some 61,.bin .add (.t 60) (.v (.int .i64 1)),none,false⟩,
  ⟨some 62,.build [(.int .i64 0),(.int .i64 0)] [(0,1,(.t 59)),(1,1,(.t 61))],none,false⟩,
  ⟨some 63,.call f_clear_Field_At [(.t 57),(.t 62)],none,false⟩,
  ⟨some 64,.mxmn false [(.t 50),(.t 56),(.t 63),(.v (.int .i64 3))],none,false⟩,
  ⟨some 65,.bin .add (.v (.int .i64 1)) (.t 64),none,false⟩,
  ⟨some 9,.mv (.t 65),none,false⟩])
def pc216:SCode:=(.seq (.region false [⟨some 42,.mv (.t 0),none,false⟩,
  ⟨some 43,.load (some 2) (.t 8),none,false⟩,
  ⟨some 44,.call f_clear_Field_tile [(.t 42),(.t 43)],none,false⟩]) (.cond (.t 44) pc215 .skip))
def pc217:SCode:=(.region false [⟨some 66,.mv (.t 6),none,false⟩,
  ⟨some 67,.mv (.t 0),none,false⟩,
  ⟨some 68,.nilck (.t 67),none,false⟩,
  ⟨some 69,.faddr 2 (.t 68),none,false⟩,
  ⟨some 70,.faddr 2 (.t 69),none,false⟩,
  ⟨some 71,.load none (.t 70),none,false⟩,
  ⟨some 72,.bin .mul (.t 66) (.t 71),none,false⟩,
  ⟨some 73,.mv (.t 7),none,false⟩,
  ⟨some 74,.bin .add (.t 72) (.t 73),none,false⟩,
  ⟨some 10,.mv (.t 74),none,false⟩])
def pc218:SCode:=(.region false [⟨some 75,.mv (.t 0),none,false⟩,
  ⟨some 76,.nilck (.t 75),none,false⟩,
  ⟨some 77,.faddr 6 (.t 76),none,false⟩,
  ⟨some 78,.load none (.t 77),none,false⟩,
  ⟨some 79,.mv (.t 10),none,false⟩,
  ⟨some 80,.iaddr 1 (.t 78) (.t 79),none,false⟩,
  ⟨some 81,.load none (.t 80),none,false⟩,
  ⟨some 82,.mv (.t 9),none,false⟩,
  ⟨some 83,.bin .neq (.t 81) (.t 82),none,false⟩])
def pc219:SCode:=(.region false [⟨some 84,.mv (.t 0),none,false⟩,
  ⟨some 85,.nilck (.t 84),none,false⟩,
  ⟨some 86,.faddr 6 (.t 85),none,false⟩,
  ⟨some 87,.load none (.t 86),none,false⟩,
  ⟨some 88,.mv (.t 10),none,false⟩,
  ⟨some 89,.mv (.t 9),none,false⟩,
  ⟨some 90,.iaddr 1 (.t 87) (.t 88),none,false⟩,
  ⟨none,.store 1 [] (.t 90) (.t 89),none,false⟩])
def pc220:SCode:=(.seq (.kp [0,3,5,6,7] pc219) (.region false [⟨some 91,.mv (.t 5),none,false⟩,
  ⟨some 92,.bin .add (.t 91) (.v (.int .i64 1)),none,false⟩,
  ⟨some 5,.mv (.t 92),none,false⟩]))
def pc221:SCode:=(.seq (.region false [⟨some 9,.mv (.v (.int .i64 0)),none,false⟩]) (.seq (.kp [0,3,5,6,7,9] pc216) (.seq (.kp [0,3,5,6,7,9,10] pc217) (.seq (.kp [0,3,5,6,7,9,10,83] pc218) (.cond (.t 83) pc220 .skip)))))
def pc222:SCode:=(.seq (.kp [0,3,5,6,7] (.block 3 (.seq (.kp [0,3,5,6,7,8] pc214) pc221))) (.region false [⟨some 37,.mv (.t 7),none,false⟩,
  ⟨some 38,.bin .sub (.t 37) (.v (.int .i64 1)),none,false⟩,
  ⟨some 7,.mv (.t 38),none,false⟩]))
def pc223:SCode:=(.seq (.kp [0,3,5,6,7] (.seq (.kp [0,3,5,6,7,36] pc213) (.cond (.t 36) .skip (.exit 2)))) pc222)
def pc224:SCode:=(.seq (.kp [0,3,5,6] (.block 1 (.seq (.kp [0,3,5,6,7] pc212) (.block 2 (.loop (some [0,3,5,6,7]) pc223))))) (.region false [⟨some 23,.mv (.t 6),none,false⟩,
  ⟨some 24,.bin .sub (.t 23) (.v (.int .i64 1)),none,false⟩,
  ⟨some 6,.mv (.t 24),none,false⟩]))
def pc225:SCode:=(.seq (.kp [0,3,5,6] (.seq (.kp [0,3,5,6,22] pc211) (.cond (.t 22) .skip (.exit 0)))) pc224)
def pc226:SCode:=(.seq (.kp [5] (.seq (.kp [0,3,5,6] pc210) (.block 0 (.loop (some [0,3,5,6]) pc225)))) (.seq (.region false [⟨some 93,.mv (.t 5),none,false⟩,
  ⟨some 4,.mv (.t 93),none,false⟩]) .ret))
def pc227:SCode:=(.seq (.region false [⟨some 3,.box true 4 (.t 1),none,false⟩,
  ⟨some 4,.mv (.v (.int .i64 0)),none,false⟩]) (.seq (.region false [⟨some 5,.mv (.v (.int .i64 0)),none,false⟩]) pc226))
def s_clear_Field_reckon:SFn:=⟨2,[.t 4],pc227⟩
def pc228:SCode:=(.seq (.region false [⟨some 3,.mv (.t 0),none,false⟩,
  ⟨some 4,.call f_grid_World_is [(.t 3)],none,false⟩,
  ⟨some 5,.un .not (.t 4),none,false⟩]) (.cond (.t 5) (.seq (.region false [⟨some 2,.mv (.v (.int .i64 0)),none,false⟩]) .ret) .skip))
def pc229:SCode:=(.region false [⟨some 6,.mv (.t 0),none,false⟩,
  ⟨some 7,.nilck (.t 6),none,false⟩,
  ⟨some 8,.faddr 5 (.t 7),none,false⟩,
  ⟨some 9,.load none (.t 8),none,false⟩,
  ⟨some 10,.len (.t 9),none,false⟩,
  ⟨some 2,.mv (.t 10),none,false⟩])
def s_grid_World_Epoch:SFn:=⟨1,[.t 2],(.seq (.region false [⟨some 2,.mv (.v (.int .i64 0)),none,false⟩]) (.seq (.kp [0] pc228) (.seq (.kp [2] pc229) .ret)))⟩
def pc230:SCode:=(.region false [⟨some 8,.mv (.t 0),none,false⟩,
  ⟨some 9,.call f_grid_World_All [(.t 8)],none,false⟩,
  ⟨some 6,.alloc true [(.int .i64 0),(.int .i64 0),(.int .i64 0),(.int .i64 0)],none,false⟩,
  ⟨none,.store 4 [] (.t 6) (.t 9),none,false⟩])
def pc231:SCode:=(.region false [⟨some 10,.load (some 4) (.t 6),none,false⟩,
  ⟨some 11,.call f_cell_May [(.t 10)],none,false⟩,
  ⟨some 12,.un .not (.t 11),none,false⟩,
  ⟨some 13,.mv (.t 12),none,false⟩,
  ⟨some 14,.mv (.t 1),(some (13,false)),false⟩,
  ⟨some 15,.bin .lss (.t 14) (.v (.int .i64 0)),(some (13,false)),false⟩,
  ⟨some 16,.pick (.t 13) (.v (.bool true)) (.t 15),none,false⟩,
  ⟨some 17,.mv (.t 16),none,false⟩,
  ⟨some 18,.mv (.t 1),(some (17,false)),false⟩,
  ⟨some 19,.bin .geq (.t 18) (.v (.int .i64 4)),(some (17,false)),false⟩,
  ⟨some 20,.pick (.t 17) (.v (.bool true)) (.t 19),none,false⟩])
def pc232:SCode:=(.kp [0,1,6] (.seq (.kp [0,1,6,20] pc231) (.cond (.t 20) (.seq (.region false [⟨some 4,.mv (.v .nilp),none,false⟩,
  ⟨some 5,.mv (.v (.int .i64 1)),none,false⟩]) .ret) .skip)))
def pc233:SCode:=(.region true [⟨some 21,.mv (.t 0),none,true⟩,
  ⟨some 22,.mv (.t 1),none,true⟩,
  ⟨some 23,.load (some 4) (.t 6),none,true⟩,
  ⟨some 24,.faddr 2 (.t 6),none,true⟩,
  ⟨some 25,.load none (.t 24),none,true⟩,
  ⟨some 26,.faddr 3 (.t 6),none,true⟩,
  ⟨some 27,.load none (.t 26),none,true⟩,
  ⟨some 28,.bin .mul (.t 25) (.t 27),none,true⟩,
  ⟨some 30,.mv (.t 0),none,true⟩,
  ⟨some 31,.call f_grid_World_Epoch [(.t 30)],none,true⟩,
  ⟨some 29,.mkslice [(.int .i64 0)] 8 (.t 28) (.t 28),none,true⟩,
  ⟨some 32,.build [.nilp,(.int .i64 0),(.int .i64 0),(.int .i64 0),(.int .i64 0),(.int .i64 0),.nils,(.int .i64 0)] [(0,1,(.t 21)),(1,1,(.t 22)),(2,4,(.t 23)),(6,1,(.t 29)),(7,1,(.t 31))],none,false⟩,
  ⟨some 33,.box false 8 (.t 32),none,false⟩,
  ⟨some 7,.mv (.t 33),none,false⟩])
def pc234:SCode:=(.seq (.region false [⟨some 34,.mv (.t 7),none,false⟩,
  ⟨some 35,.load (some 4) (.t 6),none,false⟩,
  ⟨some 36,.call f_clear_Field_reckon [(.t 34),(.t 35)],none,false⟩]) (.seq (.region false [⟨some 37,.mv (.t 7),none,false⟩,
  ⟨some 4,.mv (.t 37),none,false⟩,
  ⟨some 5,.mv (.v (.int .i64 0)),none,false⟩]) .ret))
def s_clear_New:SFn:=⟨2,[.t 4,.t 5],(.seq (.region false [⟨some 4,.mv (.v .nilp),none,false⟩,
  ⟨some 5,.mv (.v (.int .i64 0)),none,false⟩]) (.seq pc230 (.seq pc232 (.seq (.kp [6,7] pc233) pc234))))⟩
def pc235:SCode:=(.region true [⟨some 5,.mv (.t 0),none,true⟩,
  ⟨some 6,.nilck (.t 5),none,true⟩,
  ⟨some 7,.faddr 7 (.t 6),none,true⟩,
  ⟨some 8,.load none (.t 7),none,true⟩,
  ⟨some 9,.load (some 2) (.t 3),none,true⟩,
  ⟨some 11,.mv (.t 0),none,true⟩,
  ⟨some 12,.nilck (.t 11),none,true⟩,
  ⟨some 13,.faddr 1 (.t 12),none,true⟩,
  ⟨some 14,.faddr 1 (.t 13),none,true⟩,
  ⟨some 15,.load none (.t 14),none,true⟩,
  ⟨some 10,.call f_clear_Field_At [(.t 8),(.t 9)],none,true⟩,
  ⟨some 16,.bin .geq (.t 10) (.t 15),none,false⟩,
  ⟨some 4,.mv (.t 16),none,false⟩])
def s_parts_Parts_stands:SFn:=⟨2,[.t 4],(.seq (.region false [⟨some 3,.box true 2 (.t 1),none,false⟩,
  ⟨some 4,.mv (.v (.bool false)),none,false⟩]) (.seq (.kp [4] pc235) .ret))⟩
def pc236:SCode:=(.region false [⟨some 5,.mv (.t 0),none,false⟩,
  ⟨some 6,.mv (.t 1),none,false⟩,
  ⟨some 7,.iaddr 1 (.t 5) (.t 6),none,false⟩,
  ⟨some 8,.load none (.t 7),none,false⟩,
  ⟨some 9,.mv (.t 1),none,false⟩,
  ⟨some 10,.bin .neq (.t 8) (.t 9),none,false⟩])
def pc237:SCode:=(.region false [⟨some 11,.mv (.t 0),none,false⟩,
  ⟨some 12,.mv (.t 1),none,false⟩,
  ⟨some 13,.mv (.t 0),none,false⟩,
  ⟨some 14,.mv (.t 0),none,false⟩,
  ⟨some 15,.mv (.t 1),none,false⟩,
  ⟨some 16,.iaddr 1 (.t 14) (.t 15),none,false⟩,
  ⟨some 17,.load none (.t 16),none,false⟩,
  ⟨some 18,.iaddr 1 (.t 13) (.t 17),none,false⟩,
  ⟨some 19,.load none (.t 18),none,false⟩,
  ⟨some 20,.iaddr 1 (.t 11) (.t 12),none,false⟩,
  ⟨none,.store 1 [] (.t 20) (.t 19),none,false⟩])
def pc238:SCode:=(.region false [⟨some 21,.mv (.t 0),none,false⟩,
  ⟨some 22,.mv (.t 1),none,false⟩,
  ⟨some 23,.iaddr 1 (.t 21) (.t 22),none,false⟩,
  ⟨some 24,.load none (.t 23),none,false⟩,
  ⟨some 1,.mv (.t 24),none,false⟩])
def pc239:SCode:=(.seq (.kp [0,1] (.seq (.kp [0,1,10] pc236) (.cond (.t 10) .skip (.exit 0)))) (.block 1 (.seq (.kp [0,1] pc237) pc238)))
def pc240:SCode:=(.seq (.kp [0,1] (.region false [⟨some 4,.mv (.v (.int .i64 0)),none,false⟩])) (.seq (.kp [1] (.block 0 (.loop (some [0,1]) pc239))) (.seq (.region false [⟨some 25,.mv (.t 1),none,false⟩,
  ⟨some 4,.mv (.t 25),none,false⟩]) .ret)))
def s_parts_root:SFn:=⟨2,[.t 4],pc240⟩
def pc241:SCode:=(.region true [⟨some 11,.load none (.t 1),none,true⟩,
  ⟨some 12,.nilck (.t 11),none,true⟩,
  ⟨some 13,.faddr 3 (.t 12),none,true⟩,
  ⟨some 14,.faddr 2 (.t 13),none,true⟩,
  ⟨some 15,.load none (.t 14),none,true⟩,
  ⟨some 16,.load none (.t 1),none,true⟩,
  ⟨some 17,.nilck (.t 16),none,true⟩,
  ⟨some 18,.faddr 3 (.t 17),none,true⟩,
  ⟨some 19,.faddr 3 (.t 18),none,true⟩,
  ⟨some 20,.load none (.t 19),none,true⟩,
  ⟨some 21,.bin .mul (.t 15) (.t 20),none,false⟩,
  ⟨some 2,.mv (.t 21),none,false⟩])
def pc242:SCode:=(.region false [⟨some 22,.mv (.t 2),none,false⟩,
  ⟨some 23,.mkslice [(.int .i64 0)] 8 (.t 22) (.t 22),none,false⟩,
  ⟨some 3,.alloc true [.nils],none,false⟩,
  ⟨none,.store 1 [] (.t 3) (.t 23),none,false⟩])
def pc243:SCode:=(.region false [⟨some 29,.load none (.t 3),none,false⟩,
  ⟨some 30,.mv (.t 4),none,false⟩,
  ⟨some 31,.mv (.t 4),none,false⟩,
  ⟨some 32,.iaddr 1 (.t 29) (.t 30),none,false⟩,
  ⟨none,.store 1 [] (.t 32) (.t 31),none,false⟩])
def pc244:SCode:=(.seq (.kp [1,2,3,25,26] (.block 1 (.seq (.region false [⟨some 28,.mv (.t 26),none,false⟩,
  ⟨some 4,.mv (.t 28),none,false⟩]) pc243))) (.region false [⟨some 33,.bin .add (.t 26) (.v (.int .i64 1)),none,false⟩,
  ⟨some 26,.mv (.t 33),none,false⟩]))
def pc245:SCode:=(.seq (.region false [⟨some 27,.bin .lss (.t 26) (.t 25),none,false⟩]) (.seq (.kp [1,2,3,25,26] (.cond (.t 27) .skip (.exit 0))) pc244))
def pc246:SCode:=(.seq (.kp [1,2,3,25,26] (.region false [⟨some 24,.load none (.t 3),none,false⟩,
  ⟨some 25,.len (.t 24),none,false⟩,
  ⟨some 26,.mv (.v (.int .i64 0)),none,false⟩])) (.block 0 (.loop (some [1,2,3,25,26]) pc245)))
def pc247:SCode:=(.region false [⟨some 34,.load none (.t 1),none,false⟩,
  ⟨some 35,.nilck (.t 34),none,false⟩,
  ⟨some 36,.faddr 3 (.t 35),none,false⟩,
  ⟨some 37,.load (some 4) (.t 36),none,false⟩,
  ⟨some 38,.call f_cell_Cells [(.t 37)],none,false⟩])
def pc248:SCode:=(.region false [⟨some 5,.alloc true [(.int .i64 0),(.int .i64 0)],none,false⟩,
  ⟨none,.store 2 [] (.t 5) (.t 39),none,false⟩])
def pc249:SCode:=(.region false [⟨some 40,.load none (.t 1),none,false⟩,
  ⟨some 41,.load (some 2) (.t 5),none,false⟩,
  ⟨some 42,.call f_parts_Parts_stands [(.t 40),(.t 41)],none,false⟩,
  ⟨some 43,.un .not (.t 42),none,false⟩])
def pc250:SCode:=(.region true [⟨some 44,.faddr 1 (.t 5),none,true⟩,
  ⟨some 45,.load none (.t 44),none,true⟩,
  ⟨some 46,.load none (.t 1),none,true⟩,
  ⟨some 47,.nilck (.t 46),none,true⟩,
  ⟨some 48,.faddr 3 (.t 47),none,true⟩,
  ⟨some 49,.faddr 2 (.t 48),none,true⟩,
  ⟨some 50,.load none (.t 49),none,true⟩,
  ⟨some 51,.bin .mul (.t 45) (.t 50),none,true⟩,
  ⟨some 52,.faddr 0 (.t 5),none,true⟩,
  ⟨some 53,.load none (.t 52),none,true⟩,
  ⟨some 54,.bin .add (.t 51) (.t 53),none,false⟩,
  ⟨some 6,.mv (.t 54),none,false⟩])
def pc251:SCode:=(.region false [⟨some 55,.load none (.t 1),none,false⟩,
  ⟨some 56,.faddr 0 (.t 5),none,false⟩,
  ⟨some 57,.load none (.t 56),none,false⟩,
  ⟨some 58,.bin .sub (.t 57) (.v (.int .i64 1)),none,false⟩,
  ⟨some 59,.faddr 1 (.t 5),none,false⟩,
  ⟨some 60,.load none (.t 59),none,false⟩,
  ⟨some 61,.build [(.int .i64 0),(.int .i64 0)] [(0,1,(.t 58)),(1,1,(.t 60))],none,false⟩,
  ⟨some 62,.call f_parts_Parts_stands [(.t 55),(.t 61)],none,false⟩])
def pc252:SCode:=(.region true [⟨some 63,.load none (.t 3),none,true⟩,
  ⟨some 64,.load none (.t 3),none,true⟩,
  ⟨some 65,.mv (.t 6),none,true⟩,
  ⟨some 67,.load none (.t 3),none,true⟩,
  ⟨some 68,.mv (.t 6),none,true⟩,
  ⟨some 69,.bin .sub (.t 68) (.v (.int .i64 1)),none,true⟩,
  ⟨some 66,.callL [(.t 3),(.t 3)] f_parts_root [(.t 64),(.t 65)],none,false⟩,
  ⟨some 70,.callL [(.t 3)] f_parts_root [(.t 67),(.t 69)],none,false⟩,
  ⟨some 71,.iaddr 1 (.t 63) (.t 66),none,false⟩,
  ⟨none,.store 1 [] (.t 71) (.t 70),none,false⟩])
def pc253:SCode:=(.region false [⟨some 72,.load none (.t 1),none,false⟩,
  ⟨some 73,.faddr 0 (.t 5),none,false⟩,
  ⟨some 74,.load none (.t 73),none,false⟩,
  ⟨some 75,.faddr 1 (.t 5),none,false⟩,
  ⟨some 76,.load none (.t 75),none,false⟩,
  ⟨some 77,.bin .sub (.t 76) (.v (.int .i64 1)),none,false⟩,
  ⟨some 78,.build [(.int .i64 0),(.int .i64 0)] [(0,1,(.t 74)),(1,1,(.t 77))],none,false⟩,
  ⟨some 79,.call f_parts_Parts_stands [(.t 72),(.t 78)],none,false⟩])
def pc254:SCode:=(.region true [⟨some 80,.load none (.t 3),none,true⟩,
  ⟨some 81,.load none (.t 3),none,true⟩,
  ⟨some 82,.mv (.t 6),none,true⟩,
  ⟨some 84,.load none (.t 3),none,true⟩,
  ⟨some 85,.mv (.t 6),none,true⟩,
  ⟨some 86,.load none (.t 1),none,true⟩,
  ⟨some 87,.nilck (.t 86),none,true⟩,
  ⟨some 88,.faddr 3 (.t 87),none,true⟩,
  ⟨some 89,.faddr 2 (.t 88),none,true⟩,
  ⟨some 90,.load none (.t 89),none,true⟩,
  ⟨some 91,.bin .sub (.t 85) (.t 90),none,true⟩,
  ⟨some 83,.callL [(.t 3),(.t 3),(.t 1),(.t 89)] f_parts_root [(.t 81),(.t 82)],none,false⟩,
  ⟨some 92,.callL [(.t 3)] f_parts_root [(.t 84),(.t 91)],none,false⟩,
  ⟨some 93,.iaddr 1 (.t 80) (.t 83),none,false⟩,
  ⟨none,.store 1 [] (.t 93) (.t 92),none,false⟩])
def pc255:SCode:=(.seq (.kp [1,2,3,5,6] pc250) (.seq (.kp [1,2,3,5,6] (.seq (.kp [1,2,3,5,6,62] pc251) (.cond (.t 62) pc252 .skip))) (.seq (.kp [1,2,3,6,79] pc253) (.cond (.t 79) pc254 .skip))))
def pc256:SCode:=(.block 3 (.seq (.kp [1,2,3,5] (.seq pc249 (.cond (.t 43) (.exit 3) .skip))) pc255))
def pc257:SCode:=(.region true [⟨some 94,.load none (.t 1),none,true⟩,
  ⟨some 95,.load none (.t 1),none,true⟩,
  ⟨some 96,.load none (.t 1),none,true⟩,
  ⟨some 97,.mv (.t 2),none,true⟩,
  ⟨some 98,.mkslice [(.int .i64 0)] 8 (.t 97) (.t 97),none,true⟩,
  ⟨some 99,.nilck (.t 94),none,true⟩,
  ⟨some 100,.faddr 8 (.t 99),none,true⟩,
  ⟨none,.store 1 [(.t 1),(.t 1)] (.t 100) (.t 98),none,false⟩,
  ⟨some 101,.nilck (.t 95),none,true⟩,
  ⟨some 102,.faddr 9 (.t 101),none,true⟩,
  ⟨none,.store 1 [(.t 1)] (.t 102) (.v .nils),none,false⟩,
  ⟨some 103,.nilck (.t 96),none,false⟩,
  ⟨some 104,.faddr 10 (.t 103),none,false⟩,
  ⟨none,.store 1 [] (.t 104) (.v .nils),none,false⟩])
def pc258:SCode:=(.region false [⟨some 106,.load none (.t 1),none,false⟩,
  ⟨some 107,.nilck (.t 106),none,false⟩,
  ⟨some 108,.faddr 3 (.t 107),none,false⟩,
  ⟨some 109,.load (some 4) (.t 108),none,false⟩,
  ⟨some 110,.call f_cell_Cells [(.t 109)],none,false⟩])
def pc259:SCode:=(.region false [⟨some 8,.alloc true [(.int .i64 0),(.int .i64 0)],none,false⟩,
  ⟨none,.store 2 [] (.t 8) (.t 111),none,false⟩])
def pc260:SCode:=(.region true [⟨some 112,.faddr 1 (.t 8),none,true⟩,
  ⟨some 113,.load none (.t 112),none,true⟩,
  ⟨some 114,.load none (.t 1),none,true⟩,
  ⟨some 115,.nilck (.t 114),none,true⟩,
  ⟨some 116,.faddr 3 (.t 115),none,true⟩,
  ⟨some 117,.faddr 2 (.t 116),none,true⟩,
  ⟨some 118,.load none (.t 117),none,true⟩,
  ⟨some 119,.bin .mul (.t 113) (.t 118),none,true⟩,
  ⟨some 120,.faddr 0 (.t 8),none,true⟩,
  ⟨some 121,.load none (.t 120),none,true⟩,
  ⟨some 122,.bin .add (.t 119) (.t 121),none,false⟩,
  ⟨some 9,.mv (.t 122),none,false⟩])
def pc261:SCode:=(.region false [⟨some 123,.load none (.t 1),none,false⟩,
  ⟨some 124,.load (some 2) (.t 8),none,false⟩,
  ⟨some 125,.call f_parts_Parts_stands [(.t 123),(.t 124)],none,false⟩,
  ⟨some 126,.un .not (.t 125),none,false⟩])
def pc262:SCode:=(.region false [⟨some 127,.load none (.t 3),none,false⟩,
  ⟨some 128,.mv (.t 9),none,false⟩,
  ⟨some 129,.call f_parts_root [(.t 127),(.t 128)],none,false⟩,
  ⟨some 10,.mv (.t 129),none,false⟩])
def pc263:SCode:=(.region false [⟨some 130,.load none (.t 7),none,false⟩,
  ⟨some 131,.mv (.t 10),none,false⟩,
  ⟨some 132,.lookup false [.int] (.int .i64 0) false (.t 130) (.t 131),none,false⟩,
  ⟨some 133,.bin .eql (.t 132) (.v (.int .i64 0)),none,false⟩])
def pc264:SCode:=(.region true [⟨some 134,.load none (.t 1),none,true⟩,
  ⟨some 135,.load none (.t 1),none,true⟩,
  ⟨some 136,.load none (.t 1),none,true⟩,
  ⟨some 137,.nilck (.t 136),none,true⟩,
  ⟨some 138,.faddr 9 (.t 137),none,true⟩,
  ⟨some 139,.load none (.t 138),none,true⟩,
  ⟨some 140,.load (some 2) (.t 8),none,true⟩,
  ⟨some 143,.load none (.t 1),none,true⟩,
  ⟨some 144,.nilck (.t 143),none,true⟩,
  ⟨some 145,.faddr 10 (.t 144),none,true⟩,
  ⟨some 146,.load none (.t 145),none,true⟩,
  ⟨some 141,.bslice [(.int .i64 0),(.int .i64 0)] 1 2 [(0,2,(.t 140))],none,true⟩,
  ⟨some 142,.append 2 16 [(.int .i64 0),(.int .i64 0)] [(.t 1),(.t 1),(.t 1),(.t 145)] (.t 139) (.t 141),none,false⟩,
  ⟨some 147,.bslice [(.int .i64 0)] 1 1 [(0,1,(.v (.int .i64 0)))],none,true⟩,
  ⟨some 148,.append 1 8 [(.int .i64 0)] [(.t 1),(.t 1)] (.t 146) (.t 147),none,false⟩,
  ⟨some 149,.nilck (.t 134),none,true⟩,
  ⟨some 150,.faddr 9 (.t 149),none,true⟩,
  ⟨none,.store 1 [(.t 1)] (.t 150) (.t 142),none,false⟩,
  ⟨some 151,.nilck (.t 135),none,false⟩,
  ⟨some 152,.faddr 10 (.t 151),none,false⟩,
  ⟨none,.store 1 [] (.t 152) (.t 148),none,false⟩])
def pc265:SCode:=(.region true [⟨some 153,.load none (.t 7),none,true⟩,
  ⟨some 154,.mv (.t 10),none,true⟩,
  ⟨some 155,.load none (.t 1),none,true⟩,
  ⟨some 156,.nilck (.t 155),none,true⟩,
  ⟨some 157,.faddr 9 (.t 156),none,true⟩,
  ⟨some 158,.load none (.t 157),none,true⟩,
  ⟨some 159,.len (.t 158),none,true⟩,
  ⟨none,.mapset false [.int] (.t 153) (.t 154) (.t 159),none,false⟩])
def pc266:SCode:=(.region true [⟨some 160,.load none (.t 1),none,true⟩,
  ⟨some 161,.nilck (.t 160),none,true⟩,
  ⟨some 162,.faddr 8 (.t 161),none,true⟩,
  ⟨some 163,.load none (.t 162),none,true⟩,
  ⟨some 164,.mv (.t 9),none,true⟩,
  ⟨some 165,.load none (.t 7),none,true⟩,
  ⟨some 166,.mv (.t 10),none,true⟩,
  ⟨some 167,.lookup false [.int] (.int .i64 0) false (.t 165) (.t 166),none,true⟩,
  ⟨some 168,.iaddr 1 (.t 163) (.t 164),none,false⟩,
  ⟨none,.store 1 [] (.t 168) (.t 167),none,false⟩])
def pc267:SCode:=(.region true [⟨some 169,.load none (.t 1),none,true⟩,
  ⟨some 170,.nilck (.t 169),none,true⟩,
  ⟨some 171,.faddr 10 (.t 170),none,true⟩,
  ⟨some 172,.load none (.t 171),none,true⟩,
  ⟨some 173,.load none (.t 7),none,true⟩,
  ⟨some 174,.mv (.t 10),none,true⟩,
  ⟨some 175,.lookup false [.int] (.int .i64 0) false (.t 173) (.t 174),none,true⟩,
  ⟨some 176,.bin .sub (.t 175) (.v (.int .i64 1)),none,true⟩,
  ⟨some 177,.iaddr 1 (.t 172) (.t 176),none,false⟩,
  ⟨some 178,.load none (.t 177),none,false⟩,
  ⟨some 179,.bin .add (.t 178) (.v (.int .i64 1)),none,false⟩,
  ⟨some 180,.iaddr 1 (.t 172) (.t 176),none,false⟩,
  ⟨none,.store 1 [] (.t 180) (.t 179),none,false⟩])
def pc268:SCode:=(.seq (.kp [1,3,7,8,9] (.seq pc261 (.cond (.t 126) (.exit 5) .skip))) (.seq pc262 (.seq (.kp [1,7,9,10] (.seq pc263 (.cond (.t 133) (.seq (.kp [1,7,9,10] pc264) pc265) .skip))) (.seq (.kp [1,7,10] pc266) pc267))))
def pc269:SCode:=(.block 5 (.seq (.kp [1,3,7,8,9] pc260) pc268))
def pc270:SCode:=(.region true [⟨some 181,.load none (.t 1),none,true⟩,
  ⟨some 182,.load none (.t 1),none,true⟩,
  ⟨some 183,.nilck (.t 182),none,true⟩,
  ⟨some 184,.faddr 0 (.t 183),none,true⟩,
  ⟨some 185,.load none (.t 184),none,true⟩,
  ⟨some 186,.callL [(.t 1)] f_grid_World_Epoch [(.t 185)],none,false⟩,
  ⟨some 187,.nilck (.t 181),none,false⟩,
  ⟨some 188,.faddr 11 (.t 187),none,false⟩,
  ⟨none,.store 1 [] (.t 188) (.t 186),none,false⟩])
def pc271:SCode:=(.seq (.region false [⟨some 105,.mkmap,none,false⟩,
  ⟨some 7,.alloc true [.nilm],none,false⟩,
  ⟨none,.store 1 [] (.t 7) (.t 105),none,false⟩]) (.seq (.kp [1] (.seq (.kp [1,3,7,110] pc258) (.block 4 (.rangef (.t 110) [111] pc259 pc269)))) pc270))
def pc272:SCode:=(.seq pc242 (.seq (.kp [1,2,3] pc246) (.seq (.kp [1,2,3] (.seq (.kp [1,2,3,38] pc247) (.block 2 (.rangef (.t 38) [39] pc248 pc256)))) (.seq (.kp [1,3] pc257) pc271))))
def s_parts_Parts_label:SFn:=⟨1,[],(.seq (.region false [⟨some 1,.box true 1 (.t 0),none,false⟩]) (.seq (.kp [1,2] pc241) pc272))⟩
def pc273:SCode:=(.region false [⟨some 10,.mv (.t 0),none,false⟩,
  ⟨some 11,.faddr 0 (.t 3),none,false⟩,
  ⟨some 12,.load none (.t 11),none,false⟩,
  ⟨some 13,.call f_clear_New [(.t 10),(.t 12)],none,false⟩,
  ⟨some 9,.mv (.t 13),none,false⟩,
  ⟨some 14,.ext (.t 9) 0,none,false⟩,
  ⟨some 15,.ext (.t 9) 1,none,false⟩,
  ⟨some 6,.mv (.t 14),none,false⟩,
  ⟨some 7,.mv (.t 15),none,false⟩])
def pc274:SCode:=(.region false [⟨some 16,.mv (.t 7),none,false⟩,
  ⟨some 17,.bin .neq (.t 16) (.v (.int .i64 0)),none,false⟩,
  ⟨some 18,.mv (.t 17),none,false⟩,
  ⟨some 19,.load (some 2) (.t 3),(some (18,false)),false⟩,
  ⟨some 20,.call f_class_May [(.t 19)],(some (18,false)),false⟩,
  ⟨some 21,.un .not (.t 20),(some (18,false)),false⟩,
  ⟨some 22,.pick (.t 18) (.v (.bool true)) (.t 21),none,false⟩])
def pc275:SCode:=(.kp [0,3,6] (.seq (.kp [0,3,6,22] pc274) (.cond (.t 22) (.seq (.region false [⟨some 4,.mv (.v .nilp),none,false⟩,
  ⟨some 5,.mv (.v (.int .i64 1)),none,false⟩]) .ret) .skip)))
def pc276:SCode:=(.region true [⟨some 23,.mv (.t 0),none,true⟩,
  ⟨some 24,.load (some 2) (.t 3),none,true⟩,
  ⟨some 25,.mv (.t 0),none,true⟩,
  ⟨some 27,.mv (.t 6),none,true⟩,
  ⟨some 26,.call f_grid_World_All [(.t 25)],none,true⟩,
  ⟨some 28,.build [.nilp,(.int .i64 0),(.int .i64 0),(.int .i64 0),(.int .i64 0),(.int .i64 0),(.int .i64 0),.nilp,.nils,.nils,.nils,(.int .i64 0)] [(0,1,(.t 23)),(1,2,(.t 24)),(3,4,(.t 26)),(7,1,(.t 27))],none,false⟩,
  ⟨some 29,.box false 12 (.t 28),none,false⟩,
  ⟨some 8,.mv (.t 29),none,false⟩])
def pc277:SCode:=(.seq (.region false [⟨some 30,.mv (.t 8),none,false⟩,
  ⟨some 31,.call f_parts_Parts_label [(.t 30)],none,false⟩]) (.seq (.region false [⟨some 32,.mv (.t 8),none,false⟩,
  ⟨some 4,.mv (.t 32),none,false⟩,
  ⟨some 5,.mv (.v (.int .i64 0)),none,false⟩]) .ret))
def pc278:SCode:=(.seq (.region false [⟨some 3,.box true 2 (.t 1),none,false⟩,
  ⟨some 4,.mv (.v .nilp),none,false⟩,
  ⟨some 5,.mv (.v (.int .i64 0)),none,false⟩]) (.seq (.kp [0,3,6,7] pc273) (.seq pc275 (.seq (.kp [8] pc276) pc277))))
def s_parts_New:SFn:=⟨2,[.t 4,.t 5],pc278⟩
def pc279:SCode:=(.region false [⟨some 3,.mv (.t 0),none,false⟩,
  ⟨some 4,.eq true false [.ptr] (.t 3) (.v .nilp),none,false⟩,
  ⟨some 5,.mv (.t 4),none,false⟩,
  ⟨some 6,.mv (.t 0),(some (5,true)),false⟩,
  ⟨some 7,.nilck (.t 6),(some (5,true)),false⟩,
  ⟨some 8,.faddr 0 (.t 7),(some (5,true)),false⟩,
  ⟨some 9,.load none (.t 8),(some (5,true)),false⟩,
  ⟨some 10,.eq true false [.ptr] (.t 9) (.v .nilp),(some (5,true)),false⟩,
  ⟨some 11,.pick (.t 5) (.t 10) (.v (.bool false)),none,false⟩,
  ⟨some 2,.mv (.t 11),none,false⟩])
def s_parts_Parts_is:SFn:=⟨1,[.t 2],(.seq (.region false [⟨some 2,.mv (.v (.bool false)),none,false⟩]) (.seq (.kp [2] pc279) .ret))⟩
def pc280:SCode:=(.region true [⟨some 5,.mv (.t 0),none,false⟩,
  ⟨some 6,.call f_parts_Parts_is [(.t 5)],none,false⟩,
  ⟨some 7,.un .not (.t 6),none,false⟩,
  ⟨some 8,.mv (.t 7),none,false⟩,
  ⟨some 9,.mv (.t 0),(some (8,false)),true⟩,
  ⟨some 10,.nilck (.t 9),(some (8,false)),true⟩,
  ⟨some 11,.faddr 3 (.t 10),(some (8,false)),true⟩,
  ⟨some 12,.load (some 4) (.t 11),(some (8,false)),true⟩,
  ⟨some 13,.load (some 2) (.t 3),(some (8,false)),true⟩,
  ⟨some 14,.call f_cell_Has [(.t 12),(.t 13)],(some (8,false)),false⟩,
  ⟨some 15,.un .not (.t 14),(some (8,false)),false⟩,
  ⟨some 16,.pick (.t 8) (.v (.bool true)) (.t 15),none,false⟩])
def pc281:SCode:=(.region true [⟨some 17,.mv (.t 0),none,true⟩,
  ⟨some 18,.nilck (.t 17),none,true⟩,
  ⟨some 19,.faddr 8 (.t 18),none,true⟩,
  ⟨some 20,.load none (.t 19),none,true⟩,
  ⟨some 21,.faddr 1 (.t 3),none,true⟩,
  ⟨some 22,.load none (.t 21),none,true⟩,
  ⟨some 23,.mv (.t 0),none,true⟩,
  ⟨some 24,.nilck (.t 23),none,true⟩,
  ⟨some 25,.faddr 3 (.t 24),none,true⟩,
  ⟨some 26,.faddr 2 (.t 25),none,true⟩,
  ⟨some 27,.load none (.t 26),none,true⟩,
  ⟨some 28,.bin .mul (.t 22) (.t 27),none,true⟩,
  ⟨some 29,.faddr 0 (.t 3),none,true⟩,
  ⟨some 30,.load none (.t 29),none,true⟩,
  ⟨some 31,.bin .add (.t 28) (.t 30),none,true⟩,
  ⟨some 32,.iaddr 1 (.t 20) (.t 31),none,false⟩,
  ⟨some 33,.load none (.t 32),none,false⟩,
  ⟨some 4,.mv (.t 33),none,false⟩])
def pc282:SCode:=(.seq (.region false [⟨some 3,.box true 2 (.t 1),none,false⟩,
  ⟨some 4,.mv (.v (.int .i64 0)),none,false⟩]) (.seq (.kp [0,3] (.seq (.kp [0,3,16] pc280) (.cond (.t 16) (.seq (.region false [⟨some 4,.mv (.v (.int .i64 0)),none,false⟩]) .ret) .skip))) (.seq (.kp [4] pc281) .ret)))
def s_parts_Parts_At:SFn:=⟨2,[.t 4],pc282⟩
def pc283:SCode:=(.seq (.region false [⟨some 3,.mv (.t 0),none,false⟩,
  ⟨some 4,.call f_parts_Parts_is [(.t 3)],none,false⟩,
  ⟨some 5,.un .not (.t 4),none,false⟩]) (.cond (.t 5) (.seq (.region false [⟨some 2,.mv (.v (.int .i64 0)),none,false⟩]) .ret) .skip))
def pc284:SCode:=(.region false [⟨some 6,.mv (.t 0),none,false⟩,
  ⟨some 7,.nilck (.t 6),none,false⟩,
  ⟨some 8,.faddr 9 (.t 7),none,false⟩,
  ⟨some 9,.load none (.t 8),none,false⟩,
  ⟨some 10,.len (.t 9),none,false⟩,
  ⟨some 2,.mv (.t 10),none,false⟩])
def s_parts_Parts_Len:SFn:=⟨1,[.t 2],(.seq (.region false [⟨some 2,.mv (.v (.int .i64 0)),none,false⟩]) (.seq (.kp [0] pc283) (.seq (.kp [2] pc284) .ret)))⟩
def pc285:SCode:=(.region false [⟨some 6,.bslice [(.int .u8 0),(.int .u8 0),(.int .u8 0)] 3 1 [(0,1,(.v (.int .u8 0))),(1,1,(.v (.int .u8 3))),(2,1,(.v (.int .u8 0)))],none,false⟩,
  ⟨some 7,.build [(.int .i64 0),(.int .i64 0),.nils,.nils] [(0,1,(.v (.int .i64 3))),(1,1,(.v (.int .i64 1))),(2,1,(.t 6))],none,false⟩,
  ⟨some 8,.call f_grid_New [(.t 7)],none,false⟩,
  ⟨some 5,.mv (.t 8),none,false⟩,
  ⟨some 9,.ext (.t 5) 0,none,false⟩,
  ⟨some 10,.ext (.t 5) 1,none,false⟩,
  ⟨some 1,.mv (.t 9),none,false⟩,
  ⟨some 2,.mv (.t 10),none,false⟩])
def pc286:SCode:=(.region false [⟨some 12,.mv (.t 1),none,false⟩,
  ⟨some 13,.build [(.int .i64 0),(.int .i64 0)] [(1,1,(.v (.int .i64 1)))],none,false⟩,
  ⟨some 14,.call f_parts_New [(.t 12),(.t 13)],none,false⟩,
  ⟨some 11,.mv (.t 14),none,false⟩,
  ⟨some 15,.ext (.t 11) 0,none,false⟩,
  ⟨some 16,.ext (.t 11) 1,none,false⟩,
  ⟨some 3,.mv (.t 15),none,false⟩,
  ⟨some 4,.mv (.t 16),none,false⟩])
def pc287:SCode:=(.region false [⟨some 17,.mv (.t 2),none,false⟩,
  ⟨some 18,.bin .eql (.t 17) (.v (.int .i64 0)),none,false⟩,
  ⟨some 19,.mv (.t 18),none,false⟩,
  ⟨some 20,.mv (.t 4),(some (19,true)),false⟩,
  ⟨some 21,.bin .eql (.t 20) (.v (.int .i64 0)),(some (19,true)),false⟩,
  ⟨some 22,.pick (.t 19) (.t 21) (.v (.bool false)),none,false⟩,
  ⟨some 23,.mv (.t 22),none,false⟩,
  ⟨some 24,.mv (.t 3),(some (23,true)),false⟩,
  ⟨some 25,.call f_parts_Parts_Len [(.t 24)],(some (23,true)),false⟩,
  ⟨some 26,.bin .eql (.t 25) (.v (.int .i64 2)),(some (23,true)),false⟩,
  ⟨some 27,.pick (.t 23) (.t 26) (.v (.bool false)),none,false⟩,
  ⟨some 28,.mv (.t 27),none,false⟩,
  ⟨some 29,.mv (.t 3),(some (28,true)),false⟩,
  ⟨some 30,.build [(.int .i64 0),(.int .i64 0)] [(0,1,(.v (.int .i64 2)))],(some (28,true)),false⟩,
  ⟨some 31,.call f_parts_Parts_At [(.t 29),(.t 30)],(some (28,true)),false⟩,
  ⟨some 32,.bin .eql (.t 31) (.v (.int .i64 2)),(some (28,true)),false⟩,
  ⟨some 33,.pick (.t 28) (.t 32) (.v (.bool false)),none,false⟩,
  ⟨some 0,.mv (.t 33),none,false⟩])
def s_law08_awake:SFn:=⟨0,[.t 0],(.seq (.region false [⟨some 0,.mv (.v (.bool false)),none,false⟩]) (.seq (.kp [1,2] pc285) (.seq (.kp [2,3,4] pc286) (.seq (.kp [0] pc287) .ret))))⟩
def pc288:SCode:=(.region false [⟨some 6,.mv (.t 1),none,false⟩,
  ⟨some 7,.bin .lss (.t 6) (.v (.int .i64 1)),none,false⟩,
  ⟨some 8,.mv (.t 7),none,false⟩,
  ⟨some 9,.mv (.t 1),(some (8,false)),false⟩,
  ⟨some 10,.mv (.t 0),(some (8,false)),false⟩,
  ⟨some 11,.call f_parts_Parts_Len [(.t 10)],(some (8,false)),false⟩,
  ⟨some 12,.bin .gtr (.t 9) (.t 11),(some (8,false)),false⟩,
  ⟨some 13,.pick (.t 8) (.v (.bool true)) (.t 12),none,false⟩])
def pc289:SCode:=(.region false [⟨some 14,.build [(.int .i64 0),(.int .i64 0)] [],none,false⟩,
  ⟨none,.store 2 [] (.t 4) (.t 14),none,false⟩,
  ⟨some 5,.mv (.v (.bool false)),none,false⟩])
def pc290:SCode:=(.region false [⟨some 15,.mv (.t 0),none,false⟩,
  ⟨some 16,.nilck (.t 15),none,false⟩,
  ⟨some 17,.faddr 9 (.t 16),none,false⟩,
  ⟨some 18,.load none (.t 17),none,false⟩,
  ⟨some 19,.mv (.t 1),none,false⟩,
  ⟨some 20,.bin .sub (.t 19) (.v (.int .i64 1)),none,false⟩,
  ⟨some 21,.iaddr 2 (.t 18) (.t 20),none,false⟩,
  ⟨some 22,.load (some 2) (.t 21),none,false⟩,
  ⟨none,.store 2 [] (.t 4) (.t 22),none,false⟩,
  ⟨some 5,.mv (.v (.bool true)),none,false⟩])
def pc291:SCode:=(.seq (.region false [⟨some 4,.alloc true [(.int .i64 0),(.int .i64 0)],none,false⟩,
  ⟨some 5,.mv (.v (.bool false)),none,false⟩]) (.seq (.kp [0,1,4] (.seq (.kp [0,1,4,13] pc288) (.cond (.t 13) (.seq pc289 .ret) .skip))) (.seq (.kp [4,5] pc290) .ret)))
def s_parts_Parts_First:SFn:=⟨2,[.cell 4 (some 2),.t 5],pc291⟩
def pc292:SCode:=(.region false [⟨some 5,.mv (.t 1),none,false⟩,
  ⟨some 6,.bin .lss (.t 5) (.v (.int .i64 1)),none,false⟩,
  ⟨some 7,.mv (.t 6),none,false⟩,
  ⟨some 8,.mv (.t 1),(some (7,false)),false⟩,
  ⟨some 9,.mv (.t 0),(some (7,false)),false⟩,
  ⟨some 10,.call f_parts_Parts_Len [(.t 9)],(some (7,false)),false⟩,
  ⟨some 11,.bin .gtr (.t 8) (.t 10),(some (7,false)),false⟩,
  ⟨some 12,.pick (.t 7) (.v (.bool true)) (.t 11),none,false⟩])
def pc293:SCode:=(.region false [⟨some 13,.mv (.t 0),none,false⟩,
  ⟨some 14,.nilck (.t 13),none,false⟩,
  ⟨some 15,.faddr 10 (.t 14),none,false⟩,
  ⟨some 16,.load none (.t 15),none,false⟩,
  ⟨some 17,.mv (.t 1),none,false⟩,
  ⟨some 18,.bin .sub (.t 17) (.v (.int .i64 1)),none,false⟩,
  ⟨some 19,.iaddr 1 (.t 16) (.t 18),none,false⟩,
  ⟨some 20,.load none (.t 19),none,false⟩,
  ⟨some 4,.mv (.t 20),none,false⟩])
def pc294:SCode:=(.seq (.region false [⟨some 4,.mv (.v (.int .i64 0)),none,false⟩]) (.seq (.kp [0,1] (.seq (.kp [0,1,12] pc292) (.cond (.t 12) (.seq (.region false [⟨some 4,.mv (.v (.int .i64 0)),none,false⟩]) .ret) .skip))) (.seq (.kp [4] pc293) .ret)))
def s_parts_Parts_Size:SFn:=⟨2,[.t 4],pc294⟩
def pc295:SCode:=(.cond (.t 20) (.seq (.region false [⟨some 2,.mv (.v (.int .i64 1)),none,false⟩,
  ⟨some 3,.mv (.v (.int .i64 (-1))),none,false⟩,
  ⟨some 4,.mv (.v (.bool true)),none,false⟩]) .ret) .skip)
def pc296:SCode:=(.cond (.t 18) (.seq (.region false [⟨some 2,.mv (.v (.int .i64 (-1))),none,false⟩,
  ⟨some 3,.mv (.v (.int .i64 (-1))),none,false⟩,
  ⟨some 4,.mv (.v (.bool true)),none,false⟩]) .ret) (.seq (.region false [⟨some 21,.bin .eql (.t 5) (.v (.int .i64 7)),none,false⟩,
  ⟨some 20,.mv (.t 21),none,false⟩]) pc295))
def pc297:SCode:=(.cond (.t 16) (.seq (.region false [⟨some 2,.mv (.v (.int .i64 (-1))),none,false⟩,
  ⟨some 3,.mv (.v (.int .i64 1)),none,false⟩,
  ⟨some 4,.mv (.v (.bool true)),none,false⟩]) .ret) (.seq (.region false [⟨some 19,.bin .eql (.t 5) (.v (.int .i64 6)),none,false⟩,
  ⟨some 18,.mv (.t 19),none,false⟩]) pc296))
def pc298:SCode:=(.cond (.t 14) (.seq (.region false [⟨some 2,.mv (.v (.int .i64 1)),none,false⟩,
  ⟨some 3,.mv (.v (.int .i64 1)),none,false⟩,
  ⟨some 4,.mv (.v (.bool true)),none,false⟩]) .ret) (.seq (.region false [⟨some 17,.bin .eql (.t 5) (.v (.int .i64 5)),none,false⟩,
  ⟨some 16,.mv (.t 17),none,false⟩]) pc297))
def pc299:SCode:=(.cond (.t 12) (.seq (.region false [⟨some 2,.mv (.v (.int .i64 0)),none,false⟩,
  ⟨some 3,.mv (.v (.int .i64 (-1))),none,false⟩,
  ⟨some 4,.mv (.v (.bool true)),none,false⟩]) .ret) (.seq (.region false [⟨some 15,.bin .eql (.t 5) (.v (.int .i64 4)),none,false⟩,
  ⟨some 14,.mv (.t 15),none,false⟩]) pc298))
def pc300:SCode:=(.cond (.t 10) (.seq (.region false [⟨some 2,.mv (.v (.int .i64 (-1))),none,false⟩,
  ⟨some 3,.mv (.v (.int .i64 0)),none,false⟩,
  ⟨some 4,.mv (.v (.bool true)),none,false⟩]) .ret) (.seq (.region false [⟨some 13,.bin .eql (.t 5) (.v (.int .i64 3)),none,false⟩,
  ⟨some 12,.mv (.t 13),none,false⟩]) pc299))
def pc301:SCode:=(.cond (.t 8) (.seq (.region false [⟨some 2,.mv (.v (.int .i64 0)),none,false⟩,
  ⟨some 3,.mv (.v (.int .i64 1)),none,false⟩,
  ⟨some 4,.mv (.v (.bool true)),none,false⟩]) .ret) (.seq (.region false [⟨some 11,.bin .eql (.t 5) (.v (.int .i64 2)),none,false⟩,
  ⟨some 10,.mv (.t 11),none,false⟩]) pc300))
def pc302:SCode:=(.cond (.t 6) (.seq (.region false [⟨some 2,.mv (.v (.int .i64 1)),none,false⟩,
  ⟨some 3,.mv (.v (.int .i64 0)),none,false⟩,
  ⟨some 4,.mv (.v (.bool true)),none,false⟩]) .ret) (.seq (.region false [⟨some 9,.bin .eql (.t 5) (.v (.int .i64 1)),none,false⟩,
  ⟨some 8,.mv (.t 9),none,false⟩]) pc301))
def pc303:SCode:=(.seq (.region false [⟨some 5,.mv (.t 0),none,false⟩]) (.block 0 (.seq (.region false [⟨some 7,.bin .eql (.t 5) (.v (.int .i64 0)),none,false⟩,
  ⟨some 6,.mv (.t 7),none,false⟩]) pc302)))
def pc304:SCode:=(.seq (.kp [] pc303) (.seq (.region false [⟨some 2,.mv (.v (.int .i64 0)),none,false⟩,
  ⟨some 3,.mv (.v (.int .i64 0)),none,false⟩,
  ⟨some 4,.mv (.v (.bool false)),none,false⟩]) .ret))
def s_ref03_Turn:SFn:=⟨1,[.t 2,.t 3,.t 4],(.seq (.region false [⟨some 2,.mv (.v (.int .i64 0)),none,false⟩,
  ⟨some 3,.mv (.v (.int .i64 0)),none,false⟩,
  ⟨some 4,.mv (.v (.bool false)),none,false⟩]) pc304)⟩
def pc305:SCode:=(.region false [⟨some 11,.mv (.t 1),none,false⟩,
  ⟨some 12,.call f_ref03_Turn [(.t 11)],none,false⟩,
  ⟨some 10,.mv (.t 12),none,false⟩,
  ⟨some 13,.ext (.t 10) 0,none,false⟩,
  ⟨some 14,.ext (.t 10) 1,none,false⟩,
  ⟨some 15,.ext (.t 10) 2,none,false⟩,
  ⟨some 6,.mv (.t 13),none,false⟩,
  ⟨some 7,.mv (.t 14),none,false⟩,
  ⟨some 8,.mv (.t 15),none,false⟩])
def pc306:SCode:=(.region false [⟨some 16,.mv (.t 8),none,false⟩,
  ⟨some 17,.un .not (.t 16),none,false⟩,
  ⟨some 18,.mv (.t 17),none,false⟩,
  ⟨some 19,.load (some 2) (.t 2),(some (18,false)),false⟩,
  ⟨some 20,.call f_ref03_Near [(.t 19)],(some (18,false)),false⟩,
  ⟨some 21,.un .not (.t 20),(some (18,false)),false⟩,
  ⟨some 22,.pick (.t 18) (.v (.bool true)) (.t 21),none,false⟩])
def pc307:SCode:=(.region false [⟨some 23,.build [(.int .i64 0),(.int .i64 0)] [],none,false⟩,
  ⟨none,.store 2 [] (.t 4) (.t 23),none,false⟩,
  ⟨some 5,.mv (.v (.bool false)),none,false⟩])
def pc308:SCode:=(.region false [⟨some 24,.faddr 0 (.t 2),none,false⟩,
  ⟨some 25,.load none (.t 24),none,false⟩,
  ⟨some 26,.mv (.t 6),none,false⟩,
  ⟨some 27,.bin .add (.t 25) (.t 26),none,false⟩,
  ⟨some 28,.faddr 1 (.t 2),none,false⟩,
  ⟨some 29,.load none (.t 28),none,false⟩,
  ⟨some 30,.mv (.t 7),none,false⟩,
  ⟨some 31,.bin .add (.t 29) (.t 30),none,false⟩,
  ⟨some 32,.build [(.int .i64 0),(.int .i64 0)] [(0,1,(.t 27)),(1,1,(.t 31))],none,false⟩,
  ⟨some 9,.alloc true [(.int .i64 0),(.int .i64 0)],none,false⟩,
  ⟨none,.store 2 [] (.t 9) (.t 32),none,false⟩])
def pc309:SCode:=(.region false [⟨some 36,.build [(.int .i64 0),(.int .i64 0)] [],none,false⟩,
  ⟨none,.store 2 [] (.t 4) (.t 36),none,false⟩,
  ⟨some 5,.mv (.v (.bool false)),none,false⟩])
def pc310:SCode:=(.seq (.region false [⟨some 33,.load (some 2) (.t 9),none,false⟩,
  ⟨some 34,.call f_ref03_Near [(.t 33)],none,false⟩,
  ⟨some 35,.un .not (.t 34),none,false⟩]) (.cond (.t 35) (.seq pc309 .ret) .skip))
def pc311:SCode:=(.seq (.kp [4,9] pc310) (.seq (.region false [⟨some 37,.load (some 2) (.t 9),none,false⟩,
  ⟨none,.store 2 [] (.t 4) (.t 37),none,false⟩,
  ⟨some 5,.mv (.v (.bool true)),none,false⟩]) .ret))
def pc312:SCode:=(.seq (.region false [⟨some 2,.box true 2 (.t 0),none,false⟩,
  ⟨some 4,.alloc true [(.int .i64 0),(.int .i64 0)],none,false⟩,
  ⟨some 5,.mv (.v (.bool false)),none,false⟩]) (.seq (.kp [2,4,6,7,8] pc305) (.seq (.kp [2,4,6,7] (.seq (.kp [2,4,6,7,22] pc306) (.cond (.t 22) (.seq pc307 .ret) .skip))) (.seq (.kp [4,9] pc308) pc311))))
def s_ref03_Step:SFn:=⟨2,[.cell 4 (some 2),.t 5],pc312⟩
def pc313:SCode:=(.region false [⟨some 2,.box true 2 (.t 0),none,false⟩,
  ⟨some 4,.alloc true [(.int .i64 0),(.int .i64 0)],none,false⟩,
  ⟨some 5,.alloc true [(.int .i64 0),(.int .i64 0)],none,false⟩,
  ⟨some 6,.mv (.v (.bool false)),none,false⟩])
def pc314:SCode:=(.region false [⟨some 13,.load (some 2) (.t 2),none,false⟩,
  ⟨some 14,.mv (.t 1),none,false⟩,
  ⟨some 15,.call f_ref03_Step [(.t 13),(.t 14)],none,false⟩,
  ⟨some 12,.mv (.t 15),none,false⟩,
  ⟨some 16,.ext (.t 12) 0,none,false⟩,
  ⟨some 17,.ext (.t 12) 1,none,false⟩,
  ⟨some 7,.alloc true [(.int .i64 0),(.int .i64 0)],none,false⟩,
  ⟨none,.store 2 [] (.t 7) (.t 16),none,false⟩,
  ⟨some 8,.mv (.t 17),none,false⟩])
def pc315:SCode:=(.region false [⟨some 18,.mv (.t 8),none,false⟩,
  ⟨some 19,.un .not (.t 18),none,false⟩,
  ⟨some 20,.mv (.t 19),none,false⟩,
  ⟨some 21,.mv (.t 1),(some (20,false)),false⟩,
  ⟨some 22,.bin .lss (.t 21) (.v (.int .i64 4)),(some (20,false)),false⟩,
  ⟨some 23,.pick (.t 20) (.v (.bool true)) (.t 22),none,false⟩])
def pc316:SCode:=(.region true [⟨some 24,.load (some 2) (.t 4),none,true⟩,
  ⟨some 25,.load (some 2) (.t 5),none,true⟩,
  ⟨none,.store 2 [(.t 5)] (.t 4) (.t 24),none,false⟩,
  ⟨none,.store 2 [] (.t 5) (.t 25),none,false⟩,
  ⟨some 6,.mv (.v (.bool false)),none,false⟩])
def pc317:SCode:=(.region false [⟨some 27,.mv (.t 1),none,false⟩,
  ⟨some 28,.call f_ref03_Turn [(.t 27)],none,false⟩,
  ⟨some 26,.mv (.t 28),none,false⟩,
  ⟨some 29,.ext (.t 26) 0,none,false⟩,
  ⟨some 30,.ext (.t 26) 1,none,false⟩,
  ⟨some 31,.ext (.t 26) 2,none,false⟩,
  ⟨some 9,.mv (.t 29),none,false⟩,
  ⟨some 10,.mv (.t 30),none,false⟩,
  ⟨some 11,.mv (.t 31),none,false⟩])
def pc318:SCode:=(.region true [⟨some 32,.faddr 0 (.t 2),none,true⟩,
  ⟨some 33,.load none (.t 32),none,true⟩,
  ⟨some 34,.mv (.t 9),none,true⟩,
  ⟨some 35,.bin .add (.t 33) (.t 34),none,true⟩,
  ⟨some 36,.faddr 1 (.t 2),none,true⟩,
  ⟨some 37,.load none (.t 36),none,true⟩,
  ⟨some 38,.build [(.int .i64 0),(.int .i64 0)] [(0,1,(.t 35)),(1,1,(.t 37))],none,true⟩,
  ⟨some 39,.faddr 0 (.t 2),none,true⟩,
  ⟨some 40,.load none (.t 39),none,true⟩,
  ⟨some 41,.faddr 1 (.t 2),none,true⟩,
  ⟨some 42,.load none (.t 41),none,true⟩,
  ⟨some 43,.mv (.t 10),none,true⟩,
  ⟨some 44,.bin .add (.t 42) (.t 43),none,true⟩,
  ⟨some 45,.build [(.int .i64 0),(.int .i64 0)] [(0,1,(.t 40)),(1,1,(.t 44))],none,true⟩,
  ⟨none,.store 2 [(.t 39),(.t 41)] (.t 4) (.t 38),none,false⟩,
  ⟨none,.store 2 [] (.t 5) (.t 45),none,false⟩,
  ⟨some 6,.mv (.v (.bool true)),none,false⟩])
def pc319:SCode:=(.seq (.kp [1,2,4,5] (.seq (.kp [1,2,4,5,23] pc315) (.cond (.t 23) (.seq (.kp [4,5,6] pc316) .ret) .skip))) (.seq (.kp [2,4,5,9,10] pc317) (.seq (.kp [4,5,6] pc318) .ret)))
def s_ref03_Sides:SFn:=⟨2,[.cell 4 (some 2),.cell 5 (some 2),.t 6],(.seq pc313 (.seq (.kp [1,2,4,5,8] pc314) pc319))⟩
def pc320:SCode:=(.region false [⟨some 5,.faddr 0 (.t 3),none,false⟩,
  ⟨some 6,.load none (.t 5),none,false⟩,
  ⟨some 7,.bin .geq (.t 6) (.v (.int .i64 0)),none,false⟩,
  ⟨some 8,.mv (.t 7),none,false⟩,
  ⟨some 9,.faddr 0 (.t 3),(some (8,true)),false⟩,
  ⟨some 10,.load none (.t 9),(some (8,true)),false⟩,
  ⟨some 11,.faddr 0 (.t 2),(some (8,true)),false⟩,
  ⟨some 12,.load none (.t 11),(some (8,true)),false⟩,
  ⟨some 13,.bin .lss (.t 10) (.t 12),(some (8,true)),false⟩,
  ⟨some 14,.pick (.t 8) (.t 13) (.v (.bool false)),none,false⟩,
  ⟨some 15,.mv (.t 14),none,false⟩,
  ⟨some 16,.faddr 1 (.t 3),(some (15,true)),false⟩,
  ⟨some 17,.load none (.t 16),(some (15,true)),false⟩,
  ⟨some 18,.bin .geq (.t 17) (.v (.int .i64 0)),(some (15,true)),false⟩,
  ⟨some 19,.pick (.t 15) (.t 18) (.v (.bool false)),none,false⟩,
  ⟨some 20,.mv (.t 19),none,false⟩,
  ⟨some 21,.faddr 1 (.t 3),(some (20,true)),false⟩,
  ⟨some 22,.load none (.t 21),(some (20,true)),false⟩,
  ⟨some 23,.faddr 1 (.t 2),(some (20,true)),false⟩,
  ⟨some 24,.load none (.t 23),(some (20,true)),false⟩,
  ⟨some 25,.bin .lss (.t 22) (.t 24),(some (20,true)),false⟩,
  ⟨some 26,.pick (.t 20) (.t 25) (.v (.bool false)),none,false⟩,
  ⟨some 27,.mv (.t 26),none,false⟩,
  ⟨some 28,.faddr 2 (.t 2),(some (27,true)),false⟩,
  ⟨some 29,.load none (.t 28),(some (27,true)),false⟩,
  ⟨some 30,.faddr 1 (.t 3),(some (27,true)),false⟩,
  ⟨some 31,.load none (.t 30),(some (27,true)),false⟩,
  ⟨some 32,.faddr 0 (.t 2),(some (27,true)),false⟩,
  ⟨some 33,.load none (.t 32),(some (27,true)),false⟩,
  ⟨some 34,.bin .mul (.t 31) (.t 33),(some (27,true)),false⟩,
  ⟨some 35,.faddr 0 (.t 3),(some (27,true)),false⟩,
  ⟨some 36,.load none (.t 35),(some (27,true)),false⟩,
  ⟨some 37,.bin .add (.t 34) (.t 36),(some (27,true)),false⟩,
  ⟨some 38,.iaddr 1 (.t 29) (.t 37),(some (27,true)),false⟩,
  ⟨some 39,.load none (.t 38),(some (27,true)),false⟩,
  ⟨some 40,.pick (.t 27) (.t 39) (.v (.bool false)),none,false⟩,
  ⟨some 4,.mv (.t 40),none,false⟩])
def pc321:SCode:=(.seq (.region false [⟨some 2,.box true 3 (.t 0),none,false⟩,
  ⟨some 3,.box true 2 (.t 1),none,false⟩,
  ⟨some 4,.mv (.v (.bool false)),none,false⟩]) (.seq (.kp [4] pc320) .ret))
def s_ref08_Ground_Stands:SFn:=⟨2,[.t 4],pc321⟩
def pc322:SCode:=(.region false [⟨some 3,.box true 3 (.t 0),none,false⟩,
  ⟨some 4,.box true 2 (.t 1),none,false⟩,
  ⟨some 6,.alloc true [(.int .i64 0),(.int .i64 0)],none,false⟩,
  ⟨some 7,.mv (.v (.bool false)),none,false⟩])
def pc323:SCode:=(.region false [⟨some 14,.load (some 2) (.t 4),none,false⟩,
  ⟨some 15,.mv (.t 2),none,false⟩,
  ⟨some 16,.call f_ref03_Step [(.t 14),(.t 15)],none,false⟩,
  ⟨some 13,.mv (.t 16),none,false⟩,
  ⟨some 17,.ext (.t 13) 0,none,false⟩,
  ⟨some 18,.ext (.t 13) 1,none,false⟩,
  ⟨some 8,.alloc true [(.int .i64 0),(.int .i64 0)],none,false⟩,
  ⟨none,.store 2 [] (.t 8) (.t 17),none,false⟩,
  ⟨some 9,.mv (.t 18),none,false⟩])
def pc324:SCode:=(.region false [⟨some 19,.mv (.t 9),none,false⟩,
  ⟨some 20,.un .not (.t 19),none,false⟩,
  ⟨some 21,.mv (.t 20),none,false⟩,
  ⟨some 22,.load (some 3) (.t 3),(some (21,false)),false⟩,
  ⟨some 23,.load (some 2) (.t 4),(some (21,false)),false⟩,
  ⟨some 24,.call f_ref08_Ground_Stands [(.t 22),(.t 23)],(some (21,false)),false⟩,
  ⟨some 25,.un .not (.t 24),(some (21,false)),false⟩,
  ⟨some 26,.pick (.t 21) (.v (.bool true)) (.t 25),none,false⟩,
  ⟨some 27,.mv (.t 26),none,false⟩,
  ⟨some 28,.load (some 3) (.t 3),(some (27,false)),false⟩,
  ⟨some 29,.load (some 2) (.t 8),(some (27,false)),false⟩,
  ⟨some 30,.call f_ref08_Ground_Stands [(.t 28),(.t 29)],(some (27,false)),false⟩,
  ⟨some 31,.un .not (.t 30),(some (27,false)),false⟩,
  ⟨some 32,.pick (.t 27) (.v (.bool true)) (.t 31),none,false⟩])
def pc325:SCode:=(.region false [⟨some 33,.build [(.int .i64 0),(.int .i64 0)] [],none,false⟩,
  ⟨none,.store 2 [] (.t 6) (.t 33),none,false⟩,
  ⟨some 7,.mv (.v (.bool false)),none,false⟩])
def pc326:SCode:=(.region false [⟨some 35,.load (some 2) (.t 4),none,false⟩,
  ⟨some 36,.mv (.t 2),none,false⟩,
  ⟨some 37,.call f_ref03_Sides [(.t 35),(.t 36)],none,false⟩,
  ⟨some 34,.mv (.t 37),none,false⟩,
  ⟨some 38,.ext (.t 34) 0,none,false⟩,
  ⟨some 39,.ext (.t 34) 1,none,false⟩,
  ⟨some 40,.ext (.t 34) 2,none,false⟩,
  ⟨some 10,.alloc true [(.int .i64 0),(.int .i64 0)],none,false⟩,
  ⟨some 11,.alloc true [(.int .i64 0),(.int .i64 0)],none,false⟩,
  ⟨none,.store 2 [] (.t 10) (.t 38),none,false⟩,
  ⟨none,.store 2 [] (.t 11) (.t 39),none,false⟩,
  ⟨some 12,.mv (.t 40),none,false⟩])
def pc327:SCode:=(.region false [⟨some 41,.mv (.t 12),none,false⟩,
  ⟨some 42,.mv (.t 41),none,false⟩,
  ⟨some 43,.load (some 3) (.t 3),(some (42,true)),false⟩,
  ⟨some 44,.load (some 2) (.t 10),(some (42,true)),false⟩,
  ⟨some 45,.call f_ref08_Ground_Stands [(.t 43),(.t 44)],(some (42,true)),false⟩,
  ⟨some 46,.un .not (.t 45),(some (42,true)),false⟩,
  ⟨some 47,.mv (.t 46),(some (42,true)),false⟩,
  ⟨some 48,.load (some 3) (.t 3),(some (47,false)),false⟩,
  ⟨some 49,.load (some 2) (.t 11),(some (47,false)),false⟩,
  ⟨some 50,.call f_ref08_Ground_Stands [(.t 48),(.t 49)],(some (47,false)),false⟩,
  ⟨some 51,.un .not (.t 50),(some (47,false)),false⟩,
  ⟨some 52,.pick (.t 47) (.v (.bool true)) (.t 51),(some (42,true)),false⟩,
  ⟨some 53,.pick (.t 42) (.t 52) (.v (.bool false)),none,false⟩])
def pc328:SCode:=(.region false [⟨some 54,.build [(.int .i64 0),(.int .i64 0)] [],none,false⟩,
  ⟨none,.store 2 [] (.t 6) (.t 54),none,false⟩,
  ⟨some 7,.mv (.v (.bool false)),none,false⟩])
def pc329:SCode:=(.seq (.kp [6,8] (.seq (.kp [6,8,53] pc327) (.cond (.t 53) (.seq pc328 .ret) .skip))) (.seq (.region false [⟨some 55,.load (some 2) (.t 8),none,false⟩,
  ⟨none,.store 2 [] (.t 6) (.t 55),none,false⟩,
  ⟨some 7,.mv (.v (.bool true)),none,false⟩]) .ret))
def pc330:SCode:=(.seq (.kp [2,3,4,6,8,9] pc323) (.seq (.kp [2,3,4,6,8] (.seq (.kp [2,3,4,6,8,32] pc324) (.cond (.t 32) (.seq pc325 .ret) .skip))) (.seq (.kp [3,6,8,10,11,12] pc326) pc329)))
def s_ref08_Ground_Steps:SFn:=⟨3,[.cell 6 (some 2),.t 7],(.seq pc322 pc330)⟩
def pc331:SCode:=(.region false [⟨some 11,.faddr 0 (.t 1),none,false⟩,
  ⟨some 12,.load none (.t 11),none,false⟩,
  ⟨some 13,.faddr 1 (.t 1),none,false⟩,
  ⟨some 14,.load none (.t 13),none,false⟩,
  ⟨some 15,.bin .mul (.t 12) (.t 14),none,false⟩,
  ⟨some 16,.mkslice [(.int .i64 0)] 8 (.t 15) (.t 15),none,false⟩,
  ⟨some 3,.mv (.t 16),none,false⟩])
def pc332:SCode:=(.region false [⟨some 17,.mv (.t 5),none,false⟩,
  ⟨some 18,.mv (.t 3),none,false⟩,
  ⟨some 19,.len (.t 18),none,false⟩,
  ⟨some 20,.bin .lss (.t 17) (.t 19),none,false⟩])
def pc333:SCode:=(.region false [⟨some 23,.faddr 2 (.t 1),none,false⟩,
  ⟨some 24,.load none (.t 23),none,false⟩,
  ⟨some 25,.mv (.t 5),none,false⟩,
  ⟨some 26,.iaddr 1 (.t 24) (.t 25),none,false⟩,
  ⟨some 27,.load none (.t 26),none,false⟩,
  ⟨some 28,.un .not (.t 27),none,false⟩,
  ⟨some 29,.mv (.t 28),none,false⟩,
  ⟨some 30,.mv (.t 3),(some (29,false)),false⟩,
  ⟨some 31,.mv (.t 5),(some (29,false)),false⟩,
  ⟨some 32,.iaddr 1 (.t 30) (.t 31),(some (29,false)),false⟩,
  ⟨some 33,.load none (.t 32),(some (29,false)),false⟩,
  ⟨some 34,.bin .gtr (.t 33) (.v (.int .i64 0)),(some (29,false)),false⟩,
  ⟨some 35,.pick (.t 29) (.v (.bool true)) (.t 34),none,false⟩])
def pc334:SCode:=(.region false [⟨some 38,.mv (.t 3),none,false⟩,
  ⟨some 39,.mv (.t 5),none,false⟩,
  ⟨some 40,.mv (.t 4),none,false⟩,
  ⟨some 41,.iaddr 1 (.t 38) (.t 39),none,false⟩,
  ⟨none,.store 1 [] (.t 41) (.t 40),none,false⟩])
def pc335:SCode:=(.region true [⟨some 42,.mv (.t 5),none,true⟩,
  ⟨some 43,.faddr 0 (.t 1),none,true⟩,
  ⟨some 44,.load none (.t 43),none,true⟩,
  ⟨some 45,.bin .rem (.t 42) (.t 44),none,true⟩,
  ⟨some 46,.mv (.t 5),none,true⟩,
  ⟨some 47,.faddr 0 (.t 1),none,true⟩,
  ⟨some 48,.load none (.t 47),none,true⟩,
  ⟨some 49,.bin .quo (.t 46) (.t 48),none,true⟩,
  ⟨some 50,.build [(.int .i64 0),(.int .i64 0)] [(0,1,(.t 45)),(1,1,(.t 49))],none,false⟩,
  ⟨some 51,.bslice [(.int .i64 0),(.int .i64 0)] 1 2 [(0,2,(.t 50))],none,false⟩,
  ⟨some 6,.mv (.t 51),none,false⟩])
def pc336:SCode:=(.seq (.region false [⟨some 52,.mv (.t 6),none,false⟩,
  ⟨some 53,.len (.t 52),none,false⟩,
  ⟨some 54,.bin .gtr (.t 53) (.v (.int .i64 0)),none,false⟩]) (.cond (.t 54) .skip (.exit 2)))
def pc337:SCode:=(.region false [⟨some 55,.mv (.t 6),none,false⟩,
  ⟨some 56,.mv (.t 6),none,false⟩,
  ⟨some 57,.len (.t 56),none,false⟩,
  ⟨some 58,.bin .sub (.t 57) (.v (.int .i64 1)),none,false⟩,
  ⟨some 59,.iaddr 2 (.t 55) (.t 58),none,false⟩,
  ⟨some 60,.load (some 2) (.t 59),none,false⟩,
  ⟨some 7,.alloc true [(.int .i64 0),(.int .i64 0)],none,false⟩,
  ⟨none,.store 2 [] (.t 7) (.t 60),none,false⟩])
def pc338:SCode:=(.region false [⟨some 61,.mv (.t 6),none,false⟩,
  ⟨some 62,.mv (.t 6),none,false⟩,
  ⟨some 63,.len (.t 62),none,false⟩,
  ⟨some 64,.bin .sub (.t 63) (.v (.int .i64 1)),none,false⟩,
  ⟨some 65,.slice 2 (.t 61) none (some (.t 64)) none,none,false⟩,
  ⟨some 6,.mv (.t 65),none,false⟩])
def pc339:SCode:=(.kp [1,3,4,5,6,7,8] (.seq (.region false [⟨some 66,.mv (.t 8),none,false⟩,
  ⟨some 67,.bin .lss (.t 66) (.v (.int .i64 8)),none,false⟩]) (.cond (.t 67) .skip (.exit 4))))
def pc340:SCode:=(.region false [⟨some 71,.load (some 3) (.t 1),none,false⟩,
  ⟨some 72,.load (some 2) (.t 7),none,false⟩,
  ⟨some 73,.mv (.t 8),none,false⟩,
  ⟨some 74,.call f_ref08_Ground_Steps [(.t 71),(.t 72),(.t 73)],none,false⟩,
  ⟨some 70,.mv (.t 74),none,false⟩,
  ⟨some 75,.ext (.t 70) 0,none,false⟩,
  ⟨some 76,.ext (.t 70) 1,none,false⟩,
  ⟨some 9,.alloc true [(.int .i64 0),(.int .i64 0)],none,false⟩,
  ⟨none,.store 2 [] (.t 9) (.t 75),none,false⟩,
  ⟨some 10,.mv (.t 76),none,false⟩])
def pc341:SCode:=(.region false [⟨some 77,.mv (.t 10),none,false⟩,
  ⟨some 78,.mv (.t 77),none,false⟩,
  ⟨some 79,.mv (.t 3),(some (78,true)),false⟩,
  ⟨some 80,.faddr 1 (.t 9),(some (78,true)),false⟩,
  ⟨some 81,.load none (.t 80),(some (78,true)),false⟩,
  ⟨some 82,.faddr 0 (.t 1),(some (78,true)),false⟩,
  ⟨some 83,.load none (.t 82),(some (78,true)),false⟩,
  ⟨some 84,.bin .mul (.t 81) (.t 83),(some (78,true)),false⟩,
  ⟨some 85,.faddr 0 (.t 9),(some (78,true)),false⟩,
  ⟨some 86,.load none (.t 85),(some (78,true)),false⟩,
  ⟨some 87,.bin .add (.t 84) (.t 86),(some (78,true)),false⟩,
  ⟨some 88,.iaddr 1 (.t 79) (.t 87),(some (78,true)),false⟩,
  ⟨some 89,.load none (.t 88),(some (78,true)),false⟩,
  ⟨some 90,.bin .eql (.t 89) (.v (.int .i64 0)),(some (78,true)),false⟩,
  ⟨some 91,.pick (.t 78) (.t 90) (.v (.bool false)),none,false⟩])
def pc342:SCode:=(.region false [⟨some 92,.mv (.t 3),none,false⟩,
  ⟨some 93,.faddr 1 (.t 9),none,false⟩,
  ⟨some 94,.load none (.t 93),none,false⟩,
  ⟨some 95,.faddr 0 (.t 1),none,false⟩,
  ⟨some 96,.load none (.t 95),none,false⟩,
  ⟨some 97,.bin .mul (.t 94) (.t 96),none,false⟩,
  ⟨some 98,.faddr 0 (.t 9),none,false⟩,
  ⟨some 99,.load none (.t 98),none,false⟩,
  ⟨some 100,.bin .add (.t 97) (.t 99),none,false⟩,
  ⟨some 101,.mv (.t 4),none,false⟩,
  ⟨some 102,.iaddr 1 (.t 92) (.t 100),none,false⟩,
  ⟨none,.store 1 [] (.t 102) (.t 101),none,false⟩])
def pc343:SCode:=(.region false [⟨some 103,.mv (.t 6),none,false⟩,
  ⟨some 104,.load (some 2) (.t 9),none,false⟩,
  ⟨some 105,.bslice [(.int .i64 0),(.int .i64 0)] 1 2 [(0,2,(.t 104))],none,false⟩,
  ⟨some 106,.append 2 16 [(.int .i64 0),(.int .i64 0)] [] (.t 103) (.t 105),none,false⟩,
  ⟨some 6,.mv (.t 106),none,false⟩])
def pc344:SCode:=(.block 5 (.seq (.kp [1,3,4,5,6,7,8,9,10] pc340) (.seq (.kp [1,3,4,5,6,7,8,9,91] pc341) (.cond (.t 91) (.seq (.kp [1,3,4,5,6,7,8,9] pc342) pc343) .skip))))
def pc345:SCode:=(.seq (.kp [1,3,4,5,6,7,8] pc344) (.region false [⟨some 68,.mv (.t 8),none,false⟩,
  ⟨some 69,.bin .add (.t 68) (.v (.int .i64 1)),none,false⟩,
  ⟨some 8,.mv (.t 69),none,false⟩]))
def pc346:SCode:=(.seq pc339 pc345)
def pc347:SCode:=(.seq (.kp [1,3,4,5,6,7] pc338) (.seq (.kp [1,3,4,5,6,7,8] (.region false [⟨some 8,.mv (.v (.int .i64 0)),none,false⟩])) (.block 4 (.loop (some [1,3,4,5,6,7,8]) pc346))))
def pc348:SCode:=(.seq (.kp [1,3,4,5,6] pc336) (.block 3 (.seq (.kp [1,3,4,5,6,7] pc337) pc347)))
def pc349:SCode:=(.seq (.region false [⟨some 36,.mv (.t 4),none,false⟩,
  ⟨some 37,.bin .add (.t 36) (.v (.int .i64 1)),none,false⟩,
  ⟨some 4,.mv (.t 37),none,false⟩]) (.seq (.kp [1,3,4,5] pc334) (.seq (.kp [1,3,4,5,6] pc335) (.block 2 (.loop (some [1,3,4,5,6]) pc348)))))
def pc350:SCode:=(.seq (.kp [1,3,4,5] (.block 1 (.seq (.kp [1,3,4,5] (.seq (.kp [1,3,4,5,35] pc333) (.cond (.t 35) (.exit 1) .skip))) pc349))) (.region false [⟨some 21,.mv (.t 5),none,false⟩,
  ⟨some 22,.bin .add (.t 21) (.v (.int .i64 1)),none,false⟩,
  ⟨some 5,.mv (.t 22),none,false⟩]))
def pc351:SCode:=(.seq (.kp [1,3,4,5] (.seq pc332 (.cond (.t 20) .skip (.exit 0)))) pc350)
def pc352:SCode:=(.seq (.kp [3] (.seq (.kp [1,3,4,5] (.region false [⟨some 5,.mv (.v (.int .i64 0)),none,false⟩])) (.block 0 (.loop (some [1,3,4,5]) pc351)))) (.seq (.region false [⟨some 107,.mv (.t 3),none,false⟩,
  ⟨some 2,.mv (.t 107),none,false⟩]) .ret))
def pc353:SCode:=(.seq (.region false [⟨some 1,.box true 3 (.t 0),none,false⟩,
  ⟨some 2,.mv (.v .nils),none,false⟩]) (.seq (.kp [1,3] pc331) (.seq (.region false [⟨some 4,.mv (.v (.int .i64 0)),none,false⟩]) pc352)))
def s_ref08_Ground_Labels:SFn:=⟨1,[.t 2],pc353⟩
def pc354:SCode:=(.region false [⟨some 7,.mv (.t 6),none,false⟩,
  ⟨some 8,.mv (.t 0),none,false⟩,
  ⟨some 9,.nilck (.t 8),none,false⟩,
  ⟨some 10,.faddr 3 (.t 9),none,false⟩,
  ⟨some 11,.load none (.t 10),none,false⟩,
  ⟨some 12,.len (.t 11),none,false⟩,
  ⟨some 13,.bin .lss (.t 7) (.t 12),none,false⟩])
def pc355:SCode:=(.region true [⟨some 16,.mv (.t 0),none,true⟩,
  ⟨some 17,.nilck (.t 16),none,true⟩,
  ⟨some 18,.faddr 3 (.t 17),none,true⟩,
  ⟨some 19,.load none (.t 18),none,true⟩,
  ⟨some 20,.mv (.t 6),none,true⟩,
  ⟨some 21,.iaddr 5 (.t 19) (.t 20),none,true⟩,
  ⟨some 22,.faddr 1 (.t 21),none,true⟩,
  ⟨some 23,.load (some 4) (.t 22),none,true⟩,
  ⟨some 24,.load (some 2) (.t 3),none,true⟩,
  ⟨some 25,.call f_ref03_Has [(.t 23),(.t 24)],none,false⟩])
def pc356:SCode:=(.region false [⟨some 26,.mv (.t 0),none,false⟩,
  ⟨some 27,.nilck (.t 26),none,false⟩,
  ⟨some 28,.faddr 3 (.t 27),none,false⟩,
  ⟨some 29,.load none (.t 28),none,false⟩,
  ⟨some 30,.mv (.t 6),none,false⟩,
  ⟨some 31,.iaddr 5 (.t 29) (.t 30),none,false⟩,
  ⟨some 32,.faddr 0 (.t 31),none,false⟩,
  ⟨some 33,.load none (.t 32),none,false⟩,
  ⟨some 4,.mv (.t 33),none,false⟩,
  ⟨some 5,.mv (.v (.bool true)),none,false⟩])
def pc357:SCode:=(.seq (.kp [0,3,6] (.block 1 (.seq (.kp [0,3,6,25] pc355) (.cond (.t 25) (.seq (.kp [4,5] pc356) .ret) .skip)))) (.region false [⟨some 14,.mv (.t 6),none,false⟩,
  ⟨some 15,.bin .add (.t 14) (.v (.int .i64 1)),none,false⟩,
  ⟨some 6,.mv (.t 15),none,false⟩]))
def pc358:SCode:=(.seq (.kp [0,3,6] (.seq (.kp [0,3,6,13] pc354) (.cond (.t 13) .skip (.exit 0)))) pc357)
def pc359:SCode:=(.seq (.kp [] (.seq (.kp [0,3,6] (.region false [⟨some 6,.mv (.v (.int .i64 0)),none,false⟩])) (.block 0 (.loop (some [0,3,6]) pc358)))) (.seq (.region false [⟨some 4,.mv (.v (.int .i64 0)),none,false⟩,
  ⟨some 5,.mv (.v (.bool false)),none,false⟩]) .ret))
def s_ref04_At:SFn:=⟨2,[.t 4,.t 5],(.seq (.region false [⟨some 3,.box true 2 (.t 1),none,false⟩,
  ⟨some 4,.mv (.v (.int .i64 0)),none,false⟩,
  ⟨some 5,.mv (.v (.bool false)),none,false⟩]) pc359)⟩
def pc360:SCode:=(.region true [⟨some 6,.mv (.t 0),none,true⟩,
  ⟨some 8,.load (some 2) (.t 3),none,true⟩,
  ⟨some 7,.call f_ref04_All [(.t 6)],none,true⟩,
  ⟨some 9,.call f_ref03_Has [(.t 7),(.t 8)],none,false⟩,
  ⟨some 10,.un .not (.t 9),none,false⟩])
def pc361:SCode:=(.kp [0,3] (.seq (.kp [0,3,10] pc360) (.cond (.t 10) (.seq (.region false [⟨some 4,.mv (.v (.int .i64 0)),none,false⟩,
  ⟨some 5,.mv (.v (.bool false)),none,false⟩]) .ret) .skip)))
def pc362:SCode:=(.region true [⟨some 11,.mv (.t 0),none,true⟩,
  ⟨some 12,.nilck (.t 11),none,true⟩,
  ⟨some 13,.faddr 2 (.t 12),none,true⟩,
  ⟨some 14,.load none (.t 13),none,true⟩,
  ⟨some 15,.faddr 1 (.t 3),none,true⟩,
  ⟨some 16,.load none (.t 15),none,true⟩,
  ⟨some 17,.mv (.t 0),none,true⟩,
  ⟨some 18,.nilck (.t 17),none,true⟩,
  ⟨some 19,.faddr 0 (.t 18),none,true⟩,
  ⟨some 20,.load none (.t 19),none,true⟩,
  ⟨some 21,.bin .mul (.t 16) (.t 20),none,true⟩,
  ⟨some 22,.faddr 0 (.t 3),none,true⟩,
  ⟨some 23,.load none (.t 22),none,true⟩,
  ⟨some 24,.bin .add (.t 21) (.t 23),none,true⟩,
  ⟨some 25,.iaddr 1 (.t 14) (.t 24),none,false⟩,
  ⟨some 26,.load none (.t 25),none,false⟩,
  ⟨some 27,.conv .i64 (.t 26),none,false⟩,
  ⟨some 4,.mv (.t 27),none,false⟩,
  ⟨some 5,.mv (.v (.bool true)),none,false⟩])
def pc363:SCode:=(.seq (.region false [⟨some 3,.box true 2 (.t 1),none,false⟩,
  ⟨some 4,.mv (.v (.int .i64 0)),none,false⟩,
  ⟨some 5,.mv (.v (.bool false)),none,false⟩]) (.seq pc361 (.seq (.kp [4,5] pc362) .ret)))
def s_ref04_Terrain:SFn:=⟨2,[.t 4,.t 5],pc363⟩
def pc364:SCode:=(.region false [⟨some 3,.faddr 0 (.t 1),none,false⟩,
  ⟨some 4,.load none (.t 3),none,false⟩,
  ⟨some 5,.bin .geq (.t 4) (.v (.int .i64 0)),none,false⟩,
  ⟨some 6,.mv (.t 5),none,false⟩,
  ⟨some 7,.faddr 0 (.t 1),(some (6,true)),false⟩,
  ⟨some 8,.load none (.t 7),(some (6,true)),false⟩,
  ⟨some 9,.bin .lss (.t 8) (.v (.int .i64 4)),(some (6,true)),false⟩,
  ⟨some 10,.pick (.t 6) (.t 9) (.v (.bool false)),none,false⟩,
  ⟨some 11,.mv (.t 10),none,false⟩,
  ⟨some 12,.faddr 1 (.t 1),(some (11,true)),false⟩,
  ⟨some 13,.load none (.t 12),(some (11,true)),false⟩,
  ⟨some 14,.bin .geq (.t 13) (.v (.int .i64 1)),(some (11,true)),false⟩,
  ⟨some 15,.pick (.t 11) (.t 14) (.v (.bool false)),none,false⟩,
  ⟨some 16,.mv (.t 15),none,false⟩,
  ⟨some 17,.faddr 1 (.t 1),(some (16,true)),false⟩,
  ⟨some 18,.load none (.t 17),(some (16,true)),false⟩,
  ⟨some 19,.bin .leq (.t 18) (.v (.int .i64 4)),(some (16,true)),false⟩,
  ⟨some 20,.pick (.t 16) (.t 19) (.v (.bool false)),none,false⟩,
  ⟨some 2,.mv (.t 20),none,false⟩])
def s_ref06_May:SFn:=⟨1,[.t 2],(.seq (.region false [⟨some 1,.box true 2 (.t 0),none,false⟩,
  ⟨some 2,.mv (.v (.bool false)),none,false⟩]) (.seq (.kp [2] pc364) .ret))⟩
def pc365:SCode:=(.region false [⟨some 2,.box true 2 (.t 0),none,false⟩,
  ⟨some 3,.box true 2 (.t 1),none,false⟩,
  ⟨some 4,.alloc true [(.int .i64 0),(.int .i64 0),(.int .i64 0),(.int .i64 0)],none,false⟩])
def pc366:SCode:=(.region false [⟨some 6,.load (some 2) (.t 3),none,false⟩,
  ⟨some 7,.faddr 1 (.t 2),none,false⟩,
  ⟨some 8,.load none (.t 7),none,false⟩,
  ⟨some 9,.faddr 1 (.t 2),none,false⟩,
  ⟨some 10,.load none (.t 9),none,false⟩,
  ⟨some 11,.build [(.int .i64 0),(.int .i64 0),(.int .i64 0),(.int .i64 0)] [(0,2,(.t 6)),(2,1,(.t 8)),(3,1,(.t 10))],none,false⟩,
  ⟨some 5,.alloc true [(.int .i64 0),(.int .i64 0),(.int .i64 0),(.int .i64 0)],none,false⟩,
  ⟨none,.store 4 [] (.t 5) (.t 11),none,false⟩])
def pc367:SCode:=(.region false [⟨some 12,.load (some 2) (.t 2),none,false⟩,
  ⟨some 13,.call f_ref06_May [(.t 12)],none,false⟩,
  ⟨some 14,.un .not (.t 13),none,false⟩,
  ⟨some 15,.mv (.t 14),none,false⟩,
  ⟨some 16,.load (some 4) (.t 5),(some (15,false)),false⟩,
  ⟨some 17,.call f_ref03_May [(.t 16)],(some (15,false)),false⟩,
  ⟨some 18,.un .not (.t 17),(some (15,false)),false⟩,
  ⟨some 19,.pick (.t 15) (.v (.bool true)) (.t 18),none,false⟩])
def pc368:SCode:=(.cond (.t 19) (.seq (.region false [⟨some 20,.build [(.int .i64 0),(.int .i64 0),(.int .i64 0),(.int .i64 0)] [],none,false⟩,
  ⟨none,.store 4 [] (.t 4) (.t 20),none,false⟩]) .ret) .skip)
def pc369:SCode:=(.seq (.kp [4,5] (.seq (.kp [4,5,19] pc367) pc368)) (.seq (.region false [⟨some 21,.load (some 4) (.t 5),none,false⟩,
  ⟨none,.store 4 [] (.t 4) (.t 21),none,false⟩]) .ret))
def s_ref06_Foot:SFn:=⟨2,[.cell 4 (some 4)],(.seq pc365 (.seq (.kp [2,4,5] pc366) pc369))⟩
def pc370:SCode:=(.region false [⟨some 8,.mv (.t 1),none,false⟩,
  ⟨some 9,.bin .eql (.t 8) (.v (.int .i64 0)),none,false⟩,
  ⟨some 10,.mv (.t 9),none,false⟩,
  ⟨some 11,.mv (.t 1),(some (10,false)),false⟩,
  ⟨some 12,.bin .eql (.t 11) (.v (.int .i64 1)),(some (10,false)),false⟩,
  ⟨some 13,.pick (.t 10) (.v (.bool true)) (.t 12),none,false⟩,
  ⟨some 4,.mv (.t 13),none,false⟩])
def pc371:SCode:=(.region false [⟨some 24,.mv (.t 1),none,false⟩,
  ⟨some 25,.bin .eql (.t 24) (.v (.int .i64 0)),none,false⟩,
  ⟨some 26,.mv (.t 25),none,false⟩,
  ⟨some 27,.mv (.t 1),(some (26,false)),false⟩,
  ⟨some 28,.bin .eql (.t 27) (.v (.int .i64 2)),(some (26,false)),false⟩,
  ⟨some 29,.pick (.t 26) (.v (.bool true)) (.t 28),none,false⟩,
  ⟨some 4,.mv (.t 29),none,false⟩])
def pc372:SCode:=(.cond (.t 18) (.seq (.region false [⟨some 20,.mv (.t 1),none,false⟩,
  ⟨some 21,.bin .eql (.t 20) (.v (.int .i64 2)),none,false⟩,
  ⟨some 4,.mv (.t 21),none,false⟩]) .ret) (.seq (.region false [⟨some 23,.bin .eql (.t 5) (.v (.int .i64 3)),none,false⟩,
  ⟨some 22,.mv (.t 23),none,false⟩]) (.cond (.t 22) (.seq (.kp [4] pc371) .ret) .skip)))
def pc373:SCode:=(.cond (.t 14) (.seq (.region false [⟨some 16,.mv (.t 1),none,false⟩,
  ⟨some 17,.bin .eql (.t 16) (.v (.int .i64 0)),none,false⟩,
  ⟨some 4,.mv (.t 17),none,false⟩]) .ret) (.seq (.region false [⟨some 19,.bin .eql (.t 5) (.v (.int .i64 2)),none,false⟩,
  ⟨some 18,.mv (.t 19),none,false⟩]) pc372))
def pc374:SCode:=(.seq (.region false [⟨some 7,.bin .eql (.t 5) (.v (.int .i64 0)),none,false⟩,
  ⟨some 6,.mv (.t 7),none,false⟩]) (.cond (.t 6) (.seq (.kp [4] pc370) .ret) (.seq (.region false [⟨some 15,.bin .eql (.t 5) (.v (.int .i64 1)),none,false⟩,
  ⟨some 14,.mv (.t 15),none,false⟩]) pc373)))
def pc375:SCode:=(.seq (.region false [⟨some 4,.mv (.v (.bool false)),none,false⟩]) (.seq (.kp [] (.seq (.region false [⟨some 5,.mv (.t 0),none,false⟩]) (.block 0 pc374))) (.seq (.region false [⟨some 4,.mv (.v (.bool false)),none,false⟩]) .ret)))
def s_ref06_On:SFn:=⟨2,[.t 4],pc375⟩
def pc376:SCode:=(.region false [⟨some 14,.load (some 2) (.t 4),none,false⟩,
  ⟨some 15,.load (some 2) (.t 5),none,false⟩,
  ⟨some 16,.call f_ref06_Foot [(.t 14),(.t 15)],none,false⟩,
  ⟨some 7,.alloc true [(.int .i64 0),(.int .i64 0),(.int .i64 0),(.int .i64 0)],none,false⟩,
  ⟨none,.store 4 [] (.t 7) (.t 16),none,false⟩])
def pc377:SCode:=(.region true [⟨some 17,.load (some 4) (.t 7),none,true⟩,
  ⟨some 18,.mv (.t 0),none,true⟩,
  ⟨some 19,.call f_ref04_All [(.t 18)],none,true⟩,
  ⟨some 20,.call f_ref03_Within [(.t 17),(.t 19)],none,false⟩,
  ⟨some 21,.un .not (.t 20),none,false⟩])
def pc378:SCode:=(.region false [⟨some 22,.faddr 0 (.t 7),none,false⟩,
  ⟨some 23,.faddr 1 (.t 22),none,false⟩,
  ⟨some 24,.load none (.t 23),none,false⟩,
  ⟨some 8,.mv (.t 24),none,false⟩])
def pc379:SCode:=(.region false [⟨some 25,.mv (.t 8),none,false⟩,
  ⟨some 26,.faddr 0 (.t 7),none,false⟩,
  ⟨some 27,.faddr 1 (.t 26),none,false⟩,
  ⟨some 28,.load none (.t 27),none,false⟩,
  ⟨some 29,.faddr 3 (.t 7),none,false⟩,
  ⟨some 30,.load none (.t 29),none,false⟩,
  ⟨some 31,.bin .add (.t 28) (.t 30),none,false⟩,
  ⟨some 32,.bin .lss (.t 25) (.t 31),none,false⟩])
def pc380:SCode:=(.region false [⟨some 35,.faddr 0 (.t 7),none,false⟩,
  ⟨some 36,.faddr 0 (.t 35),none,false⟩,
  ⟨some 37,.load none (.t 36),none,false⟩,
  ⟨some 9,.mv (.t 37),none,false⟩])
def pc381:SCode:=(.region false [⟨some 38,.mv (.t 9),none,false⟩,
  ⟨some 39,.faddr 0 (.t 7),none,false⟩,
  ⟨some 40,.faddr 0 (.t 39),none,false⟩,
  ⟨some 41,.load none (.t 40),none,false⟩,
  ⟨some 42,.faddr 2 (.t 7),none,false⟩,
  ⟨some 43,.load none (.t 42),none,false⟩,
  ⟨some 44,.bin .add (.t 41) (.t 43),none,false⟩,
  ⟨some 45,.bin .lss (.t 38) (.t 44),none,false⟩])
def pc382:SCode:=(.region false [⟨some 49,.mv (.t 0),none,false⟩,
  ⟨some 50,.mv (.t 9),none,false⟩,
  ⟨some 51,.mv (.t 8),none,false⟩,
  ⟨some 52,.build [(.int .i64 0),(.int .i64 0)] [(0,1,(.t 50)),(1,1,(.t 51))],none,false⟩,
  ⟨some 53,.call f_ref04_Terrain [(.t 49),(.t 52)],none,false⟩,
  ⟨some 48,.mv (.t 53),none,false⟩,
  ⟨some 54,.ext (.t 48) 0,none,false⟩,
  ⟨some 55,.ext (.t 48) 1,none,false⟩,
  ⟨some 10,.mv (.t 54),none,false⟩,
  ⟨some 11,.mv (.t 55),none,false⟩])
def pc383:SCode:=(.region false [⟨some 57,.mv (.t 0),none,false⟩,
  ⟨some 58,.mv (.t 9),none,false⟩,
  ⟨some 59,.mv (.t 8),none,false⟩,
  ⟨some 60,.build [(.int .i64 0),(.int .i64 0)] [(0,1,(.t 58)),(1,1,(.t 59))],none,false⟩,
  ⟨some 61,.call f_ref04_At [(.t 57),(.t 60)],none,false⟩,
  ⟨some 56,.mv (.t 61),none,false⟩,
  ⟨some 62,.ext (.t 56) 0,none,false⟩,
  ⟨some 63,.ext (.t 56) 1,none,false⟩,
  ⟨some 12,.mv (.t 62),none,false⟩,
  ⟨some 13,.mv (.t 63),none,false⟩])
def pc384:SCode:=(.region false [⟨some 64,.mv (.t 13),none,false⟩,
  ⟨some 65,.mv (.t 64),none,false⟩,
  ⟨some 66,.faddr 0 (.t 4),(some (65,false)),false⟩,
  ⟨some 67,.load none (.t 66),(some (65,false)),false⟩,
  ⟨some 68,.mv (.t 10),(some (65,false)),false⟩,
  ⟨some 69,.call f_ref06_On [(.t 67),(.t 68)],(some (65,false)),false⟩,
  ⟨some 70,.un .not (.t 69),(some (65,false)),false⟩,
  ⟨some 71,.pick (.t 65) (.v (.bool true)) (.t 70),none,false⟩])
def pc385:SCode:=(.seq (.kp [0,4,7,8,9,10,13] pc383) (.seq (.kp [0,4,7,8,9,71] pc384) (.cond (.t 71) (.seq (.region false [⟨some 6,.mv (.v (.bool false)),none,false⟩]) .ret) .skip)))
def pc386:SCode:=(.seq (.kp [0,4,7,8,9] (.block 3 (.seq (.kp [0,4,7,8,9,10] pc382) pc385))) (.region false [⟨some 46,.mv (.t 9),none,false⟩,
  ⟨some 47,.bin .add (.t 46) (.v (.int .i64 1)),none,false⟩,
  ⟨some 9,.mv (.t 47),none,false⟩]))
def pc387:SCode:=(.seq (.kp [0,4,7,8,9] (.seq (.kp [0,4,7,8,9,45] pc381) (.cond (.t 45) .skip (.exit 2)))) pc386)
def pc388:SCode:=(.seq (.kp [0,4,7,8] (.block 1 (.seq (.kp [0,4,7,8,9] pc380) (.block 2 (.loop (some [0,4,7,8,9]) pc387))))) (.region false [⟨some 33,.mv (.t 8),none,false⟩,
  ⟨some 34,.bin .add (.t 33) (.v (.int .i64 1)),none,false⟩,
  ⟨some 8,.mv (.t 34),none,false⟩]))
def pc389:SCode:=(.seq (.kp [0,4,7,8] (.seq (.kp [0,4,7,8,32] pc379) (.cond (.t 32) .skip (.exit 0)))) pc388)
def pc390:SCode:=(.seq (.kp [0,4,7] (.seq (.kp [0,4,7,21] pc377) (.cond (.t 21) (.seq (.region false [⟨some 6,.mv (.v (.bool false)),none,false⟩]) .ret) .skip))) (.seq (.kp [] (.seq (.kp [0,4,7,8] pc378) (.block 0 (.loop (some [0,4,7,8]) pc389)))) (.seq (.region false [⟨some 6,.mv (.v (.bool true)),none,false⟩]) .ret)))
def pc391:SCode:=(.seq (.region false [⟨some 4,.box true 2 (.t 1),none,false⟩,
  ⟨some 5,.box true 2 (.t 2),none,false⟩,
  ⟨some 6,.mv (.v (.bool false)),none,false⟩]) (.seq (.kp [0,4,7] pc376) pc390))
def s_ref06_Stands:SFn:=⟨3,[.t 6],pc391⟩
def pc392:SCode:=(.region false [⟨some 9,.mv (.t 0),none,false⟩,
  ⟨some 10,.call f_ref04_All [(.t 9)],none,false⟩,
  ⟨some 5,.alloc true [(.int .i64 0),(.int .i64 0),(.int .i64 0),(.int .i64 0)],none,false⟩,
  ⟨none,.store 4 [] (.t 5) (.t 10),none,false⟩])
def pc393:SCode:=(.region false [⟨some 11,.faddr 2 (.t 5),none,false⟩,
  ⟨some 12,.load none (.t 11),none,false⟩,
  ⟨some 13,.faddr 3 (.t 5),none,false⟩,
  ⟨some 14,.load none (.t 13),none,false⟩,
  ⟨some 15,.build [(.int .i64 0),(.int .i64 0),.nils] [(0,1,(.t 12)),(1,1,(.t 14))],none,false⟩,
  ⟨some 6,.alloc true [(.int .i64 0),(.int .i64 0),.nils],none,false⟩,
  ⟨none,.store 3 [] (.t 6) (.t 15),none,false⟩])
def pc394:SCode:=(.region false [⟨some 16,.mv (.t 7),none,false⟩,
  ⟨some 17,.faddr 1 (.t 6),none,false⟩,
  ⟨some 18,.load none (.t 17),none,false⟩,
  ⟨some 19,.bin .lss (.t 16) (.t 18),none,false⟩])
def pc395:SCode:=(.region false [⟨some 22,.mv (.t 8),none,false⟩,
  ⟨some 23,.faddr 0 (.t 6),none,false⟩,
  ⟨some 24,.load none (.t 23),none,false⟩,
  ⟨some 25,.bin .lss (.t 22) (.t 24),none,false⟩])
def pc396:SCode:=(.region true [⟨some 28,.faddr 2 (.t 6),none,true⟩,
  ⟨some 29,.load none (.t 28),none,true⟩,
  ⟨some 30,.mv (.t 0),none,true⟩,
  ⟨some 31,.load (some 2) (.t 3),none,true⟩,
  ⟨some 32,.mv (.t 8),none,true⟩,
  ⟨some 33,.mv (.t 7),none,true⟩,
  ⟨some 34,.build [(.int .i64 0),(.int .i64 0)] [(0,1,(.t 32)),(1,1,(.t 33))],none,true⟩,
  ⟨some 35,.call f_ref06_Stands [(.t 30),(.t 31),(.t 34)],none,true⟩,
  ⟨some 36,.bslice [(.bool false)] 1 1 [(0,1,(.t 35))],none,true⟩,
  ⟨some 37,.append 1 1 [(.bool false)] [] (.t 29) (.t 36),none,false⟩,
  ⟨some 38,.faddr 2 (.t 6),none,false⟩,
  ⟨none,.store 1 [] (.t 38) (.t 37),none,false⟩])
def pc397:SCode:=(.seq (.kp [0,3,4,6,7,8] (.block 3 pc396)) (.region false [⟨some 26,.mv (.t 8),none,false⟩,
  ⟨some 27,.bin .add (.t 26) (.v (.int .i64 1)),none,false⟩,
  ⟨some 8,.mv (.t 27),none,false⟩]))
def pc398:SCode:=(.seq (.kp [0,3,4,6,7,8] (.seq pc395 (.cond (.t 25) .skip (.exit 2)))) pc397)
def pc399:SCode:=(.seq (.kp [0,3,4,6,7] (.block 1 (.seq (.kp [0,3,4,6,7,8] (.region false [⟨some 8,.mv (.v (.int .i64 0)),none,false⟩])) (.block 2 (.loop (some [0,3,4,6,7,8]) pc398))))) (.region false [⟨some 20,.mv (.t 7),none,false⟩,
  ⟨some 21,.bin .add (.t 20) (.v (.int .i64 1)),none,false⟩,
  ⟨some 7,.mv (.t 21),none,false⟩]))
def pc400:SCode:=(.seq (.kp [0,3,4,6,7] (.seq pc394 (.cond (.t 19) .skip (.exit 0)))) pc399)
def pc401:SCode:=(.seq (.kp [4,6] (.seq (.kp [0,3,4,6,7] (.region false [⟨some 7,.mv (.v (.int .i64 0)),none,false⟩])) (.block 0 (.loop (some [0,3,4,6,7]) pc400)))) (.seq (.region false [⟨some 39,.load (some 3) (.t 6),none,false⟩,
  ⟨none,.store 3 [] (.t 4) (.t 39),none,false⟩]) .ret))
def pc402:SCode:=(.seq (.region false [⟨some 3,.box true 2 (.t 1),none,false⟩,
  ⟨some 4,.alloc true [(.int .i64 0),(.int .i64 0),.nils],none,false⟩]) (.seq pc392 (.seq (.kp [0,3,4,6] pc393) pc401)))
def s_ref08_Of:SFn:=⟨2,[.cell 4 (some 3)],pc402⟩
def pc403:SCode:=(.region false [⟨some 20,.mv (.t 1),none,false⟩,
  ⟨some 21,.load (some 2) (.t 5),none,false⟩,
  ⟨some 22,.call f_ref08_Of [(.t 20),(.t 21)],none,false⟩,
  ⟨some 7,.alloc true [(.int .i64 0),(.int .i64 0),.nils],none,false⟩,
  ⟨none,.store 3 [] (.t 7) (.t 22),none,false⟩])
def pc404:SCode:=(.region false [⟨some 27,.mv (.t 12),none,false⟩,
  ⟨some 28,.mv (.t 8),none,false⟩,
  ⟨some 29,.len (.t 28),none,false⟩,
  ⟨some 30,.bin .lss (.t 27) (.t 29),none,false⟩])
def pc405:SCode:=(.region true [⟨some 33,.mv (.t 0),none,true⟩,
  ⟨some 34,.mv (.t 12),none,true⟩,
  ⟨some 35,.faddr 0 (.t 7),none,true⟩,
  ⟨some 36,.load none (.t 35),none,true⟩,
  ⟨some 37,.bin .rem (.t 34) (.t 36),none,true⟩,
  ⟨some 38,.mv (.t 12),none,true⟩,
  ⟨some 39,.faddr 0 (.t 7),none,true⟩,
  ⟨some 40,.load none (.t 39),none,true⟩,
  ⟨some 41,.bin .quo (.t 38) (.t 40),none,true⟩,
  ⟨some 42,.build [(.int .i64 0),(.int .i64 0)] [(0,1,(.t 37)),(1,1,(.t 41))],none,true⟩,
  ⟨some 44,.mv (.t 8),none,true⟩,
  ⟨some 45,.mv (.t 12),none,true⟩,
  ⟨some 46,.iaddr 1 (.t 44) (.t 45),none,true⟩,
  ⟨some 47,.load none (.t 46),none,true⟩,
  ⟨some 43,.call f_parts_Parts_At [(.t 33),(.t 42)],none,true⟩,
  ⟨some 48,.bin .neq (.t 43) (.t 47),none,false⟩])
def pc406:SCode:=(.region false [⟨some 49,.mv (.t 8),none,false⟩,
  ⟨some 50,.mv (.t 12),none,false⟩,
  ⟨some 51,.iaddr 1 (.t 49) (.t 50),none,false⟩,
  ⟨some 52,.load none (.t 51),none,false⟩,
  ⟨some 53,.mv (.t 11),none,false⟩,
  ⟨some 54,.bin .gtr (.t 52) (.t 53),none,false⟩])
def pc407:SCode:=(.region false [⟨some 55,.mv (.t 8),none,false⟩,
  ⟨some 56,.mv (.t 12),none,false⟩,
  ⟨some 57,.iaddr 1 (.t 55) (.t 56),none,false⟩,
  ⟨some 58,.load none (.t 57),none,false⟩,
  ⟨some 11,.mv (.t 58),none,false⟩])
def pc408:SCode:=(.region false [⟨some 59,.mv (.t 10),none,false⟩,
  ⟨some 60,.mv (.t 8),none,false⟩,
  ⟨some 61,.mv (.t 12),none,false⟩,
  ⟨some 62,.iaddr 1 (.t 60) (.t 61),none,false⟩,
  ⟨some 63,.load none (.t 62),none,false⟩,
  ⟨some 64,.mv (.t 12),none,false⟩,
  ⟨none,.mapset false [.int] (.t 59) (.t 63) (.t 64),none,false⟩])
def pc409:SCode:=(.region false [⟨some 65,.mv (.t 9),none,false⟩,
  ⟨some 66,.mv (.t 8),none,false⟩,
  ⟨some 67,.mv (.t 12),none,false⟩,
  ⟨some 68,.iaddr 1 (.t 66) (.t 67),none,false⟩,
  ⟨some 69,.load none (.t 68),none,false⟩,
  ⟨some 70,.lookup false [.int] (.int .i64 0) false (.t 65) (.t 69),none,false⟩,
  ⟨some 71,.bin .add (.t 70) (.v (.int .i64 1)),none,false⟩,
  ⟨none,.mapset false [.int] (.t 65) (.t 69) (.t 71),none,false⟩])
def pc410:SCode:=(.seq (.kp [0,7,8,9,10,11,12] (.seq (.kp [0,7,8,9,10,11,12,48] pc405) (.cond (.t 48) (.seq (.region false [⟨some 6,.mv (.v (.bool false)),none,false⟩]) .ret) .skip))) (.seq (.kp [0,7,8,9,10,11,12] (.seq (.kp [0,7,8,9,10,11,12,54] pc406) (.cond (.t 54) (.seq (.kp [0,7,8,9,10,11,12] pc407) pc408) .skip))) pc409))
def pc411:SCode:=(.seq (.kp [0,7,8,9,10,11,12] (.block 1 pc410)) (.region false [⟨some 31,.mv (.t 12),none,false⟩,
  ⟨some 32,.bin .add (.t 31) (.v (.int .i64 1)),none,false⟩,
  ⟨some 12,.mv (.t 32),none,false⟩]))
def pc412:SCode:=(.seq (.kp [0,7,8,9,10,11,12] (.seq pc404 (.cond (.t 30) .skip (.exit 0)))) pc411)
def pc413:SCode:=(.kp [0,7,9,10,11] (.seq (.kp [0,7,8,9,10,11,12] (.region false [⟨some 12,.mv (.v (.int .i64 0)),none,false⟩])) (.block 0 (.loop (some [0,7,8,9,10,11,12]) pc412))))
def pc414:SCode:=(.seq (.region false [⟨some 72,.mv (.t 13),none,false⟩,
  ⟨some 73,.mv (.t 11),none,false⟩,
  ⟨some 74,.bin .leq (.t 72) (.t 73),none,false⟩]) (.cond (.t 74) .skip (.exit 2)))
def pc415:SCode:=(.region false [⟨some 78,.mv (.t 0),none,false⟩,
  ⟨some 79,.mv (.t 13),none,false⟩,
  ⟨some 80,.call f_parts_Parts_First [(.t 78),(.t 79)],none,false⟩,
  ⟨some 77,.mv (.t 80),none,false⟩,
  ⟨some 81,.ext (.t 77) 0,none,false⟩,
  ⟨some 82,.ext (.t 77) 1,none,false⟩,
  ⟨some 14,.alloc true [(.int .i64 0),(.int .i64 0)],none,false⟩,
  ⟨none,.store 2 [] (.t 14) (.t 81),none,false⟩,
  ⟨some 15,.mv (.t 82),none,false⟩])
def pc416:SCode:=(.region true [⟨some 83,.mv (.t 15),none,false⟩,
  ⟨some 84,.un .not (.t 83),none,false⟩,
  ⟨some 85,.mv (.t 84),none,false⟩,
  ⟨some 86,.load (some 2) (.t 14),(some (85,false)),true⟩,
  ⟨some 87,.mv (.t 10),(some (85,false)),true⟩,
  ⟨some 88,.mv (.t 13),(some (85,false)),true⟩,
  ⟨some 89,.lookup false [.int] (.int .i64 0) false (.t 87) (.t 88),(some (85,false)),true⟩,
  ⟨some 90,.faddr 0 (.t 7),(some (85,false)),true⟩,
  ⟨some 91,.load none (.t 90),(some (85,false)),true⟩,
  ⟨some 92,.bin .rem (.t 89) (.t 91),(some (85,false)),true⟩,
  ⟨some 93,.mv (.t 10),(some (85,false)),true⟩,
  ⟨some 94,.mv (.t 13),(some (85,false)),true⟩,
  ⟨some 95,.lookup false [.int] (.int .i64 0) false (.t 93) (.t 94),(some (85,false)),true⟩,
  ⟨some 96,.faddr 0 (.t 7),(some (85,false)),true⟩,
  ⟨some 97,.load none (.t 96),(some (85,false)),true⟩,
  ⟨some 98,.bin .quo (.t 95) (.t 97),(some (85,false)),true⟩,
  ⟨some 99,.build [(.int .i64 0),(.int .i64 0)] [(0,1,(.t 92)),(1,1,(.t 98))],(some (85,false)),true⟩,
  ⟨some 100,.eq true true [.int,.int] (.t 86) (.t 99),(some (85,false)),false⟩,
  ⟨some 101,.pick (.t 85) (.v (.bool true)) (.t 100),none,false⟩,
  ⟨some 102,.mv (.t 101),none,false⟩,
  ⟨some 103,.mv (.t 0),(some (102,false)),true⟩,
  ⟨some 104,.mv (.t 13),(some (102,false)),true⟩,
  ⟨some 106,.mv (.t 9),(some (102,false)),true⟩,
  ⟨some 107,.mv (.t 13),(some (102,false)),true⟩,
  ⟨some 108,.lookup false [.int] (.int .i64 0) false (.t 106) (.t 107),(some (102,false)),true⟩,
  ⟨some 105,.call f_parts_Parts_Size [(.t 103),(.t 104)],(some (102,false)),true⟩,
  ⟨some 109,.bin .neq (.t 105) (.t 108),(some (102,false)),false⟩,
  ⟨some 110,.pick (.t 102) (.v (.bool true)) (.t 109),none,false⟩])
def pc417:SCode:=(.seq (.kp [0,7,9,10,11,13,14,15] pc415) (.seq (.kp [0,7,9,10,11,13,110] pc416) (.cond (.t 110) (.seq (.region false [⟨some 6,.mv (.v (.bool false)),none,false⟩]) .ret) .skip)))
def pc418:SCode:=(.seq (.kp [0,7,9,10,11,13] (.block 3 pc417)) (.region false [⟨some 75,.mv (.t 13),none,false⟩,
  ⟨some 76,.bin .add (.t 75) (.v (.int .i64 1)),none,false⟩,
  ⟨some 13,.mv (.t 76),none,false⟩]))
def pc419:SCode:=(.seq (.kp [0,7,9,10,11,13] pc414) pc418)
def pc420:SCode:=(.region false [⟨some 112,.mv (.t 0),none,false⟩,
  ⟨some 113,.mv (.t 11),none,false⟩,
  ⟨some 114,.bin .add (.t 113) (.v (.int .i64 1)),none,false⟩,
  ⟨some 115,.call f_parts_Parts_First [(.t 112),(.t 114)],none,false⟩,
  ⟨some 111,.mv (.t 115),none,false⟩,
  ⟨some 116,.ext (.t 111) 0,none,false⟩,
  ⟨some 117,.ext (.t 111) 1,none,false⟩,
  ⟨some 16,.alloc true [(.int .i64 0),(.int .i64 0)],none,false⟩,
  ⟨none,.store 2 [] (.t 16) (.t 116),none,false⟩,
  ⟨some 17,.mv (.t 117),none,false⟩])
def pc421:SCode:=(.region false [⟨some 119,.mv (.t 0),none,false⟩,
  ⟨some 120,.call f_parts_Parts_First [(.t 119),(.v (.int .i64 0))],none,false⟩,
  ⟨some 118,.mv (.t 120),none,false⟩,
  ⟨some 121,.ext (.t 118) 0,none,false⟩,
  ⟨some 122,.ext (.t 118) 1,none,false⟩,
  ⟨some 18,.alloc true [(.int .i64 0),(.int .i64 0)],none,false⟩,
  ⟨none,.store 2 [] (.t 18) (.t 121),none,false⟩,
  ⟨some 19,.mv (.t 122),none,false⟩])
def pc422:SCode:=(.region false [⟨some 123,.mv (.t 0),none,false⟩,
  ⟨some 124,.call f_parts_Parts_Len [(.t 123)],none,false⟩,
  ⟨some 125,.mv (.t 11),none,false⟩,
  ⟨some 126,.bin .eql (.t 124) (.t 125),none,false⟩,
  ⟨some 127,.mv (.t 126),none,false⟩,
  ⟨some 128,.mv (.t 17),(some (127,true)),false⟩,
  ⟨some 129,.un .not (.t 128),(some (127,true)),false⟩,
  ⟨some 130,.pick (.t 127) (.t 129) (.v (.bool false)),none,false⟩,
  ⟨some 131,.mv (.t 130),none,false⟩,
  ⟨some 132,.mv (.t 19),(some (131,true)),false⟩,
  ⟨some 133,.un .not (.t 132),(some (131,true)),false⟩,
  ⟨some 134,.pick (.t 131) (.t 133) (.v (.bool false)),none,false⟩,
  ⟨some 135,.mv (.t 134),none,false⟩,
  ⟨some 136,.mv (.t 0),(some (135,true)),false⟩,
  ⟨some 137,.call f_parts_Parts_Size [(.t 136),(.v (.int .i64 0))],(some (135,true)),false⟩,
  ⟨some 138,.bin .eql (.t 137) (.v (.int .i64 0)),(some (135,true)),false⟩,
  ⟨some 139,.pick (.t 135) (.t 138) (.v (.bool false)),none,false⟩,
  ⟨some 140,.mv (.t 139),none,false⟩,
  ⟨some 141,.mv (.t 0),(some (140,true)),false⟩,
  ⟨some 142,.mv (.t 11),(some (140,true)),false⟩,
  ⟨some 143,.bin .add (.t 142) (.v (.int .i64 1)),(some (140,true)),false⟩,
  ⟨some 144,.call f_parts_Parts_Size [(.t 141),(.t 143)],(some (140,true)),false⟩,
  ⟨some 145,.bin .eql (.t 144) (.v (.int .i64 0)),(some (140,true)),false⟩,
  ⟨some 146,.pick (.t 140) (.t 145) (.v (.bool false)),none,false⟩,
  ⟨some 147,.mv (.t 146),none,false⟩,
  ⟨some 148,.mv (.t 0),(some (147,true)),false⟩,
  ⟨some 149,.build [(.int .i64 0),(.int .i64 0)] [(0,1,(.v (.int .i64 (-1))))],(some (147,true)),false⟩,
  ⟨some 150,.call f_parts_Parts_At [(.t 148),(.t 149)],(some (147,true)),false⟩,
  ⟨some 151,.bin .eql (.t 150) (.v (.int .i64 0)),(some (147,true)),false⟩,
  ⟨some 152,.pick (.t 147) (.t 151) (.v (.bool false)),none,false⟩,
  ⟨some 153,.mv (.t 152),none,false⟩,
  ⟨some 154,.mv (.t 0),(some (153,true)),false⟩,
  ⟨some 155,.faddr 0 (.t 7),(some (153,true)),false⟩,
  ⟨some 156,.load none (.t 155),(some (153,true)),false⟩,
  ⟨some 157,.build [(.int .i64 0),(.int .i64 0)] [(0,1,(.t 156))],(some (153,true)),false⟩,
  ⟨some 158,.call f_parts_Parts_At [(.t 154),(.t 157)],(some (153,true)),false⟩,
  ⟨some 159,.bin .eql (.t 158) (.v (.int .i64 0)),(some (153,true)),false⟩,
  ⟨some 160,.pick (.t 153) (.t 159) (.v (.bool false)),none,false⟩,
  ⟨some 6,.mv (.t 160),none,false⟩])
def pc423:SCode:=(.seq (.kp [0,7,11] (.seq (.kp [0,7,9,10,11,13] (.region false [⟨some 13,.mv (.v (.int .i64 1)),none,false⟩])) (.block 2 (.loop (some [0,7,9,10,11,13]) pc419)))) (.seq (.kp [0,7,11,17] pc420) (.seq (.kp [0,7,11,17,19] pc421) (.seq (.kp [6] pc422) .ret))))
def pc424:SCode:=(.seq (.region false [⟨some 26,.mkmap,none,false⟩,
  ⟨some 10,.mv (.t 26),none,false⟩]) (.seq (.region false [⟨some 11,.mv (.v (.int .i64 0)),none,false⟩]) (.seq pc413 pc423)))
def pc425:SCode:=(.seq (.region false [⟨some 23,.load (some 3) (.t 7),none,false⟩,
  ⟨some 24,.call f_ref08_Ground_Labels [(.t 23)],none,false⟩,
  ⟨some 8,.mv (.t 24),none,false⟩]) (.seq (.region false [⟨some 25,.mkmap,none,false⟩,
  ⟨some 9,.mv (.t 25),none,false⟩]) pc424))
def s_law08_right:SFn:=⟨3,[.t 6],(.seq (.region false [⟨some 5,.box true 2 (.t 2),none,false⟩,
  ⟨some 6,.mv (.v (.bool false)),none,false⟩]) (.seq (.kp [0,7] pc403) pc425))⟩
def pc426:SCode:=(.seq (.region false [⟨some 3,.mv (.t 0),none,false⟩,
  ⟨some 4,.eq false false [.slice] (.t 3) (.v .nils),none,false⟩]) (.cond (.t 4) (.seq (.region false [⟨some 2,.mv (.v .nils),none,false⟩]) .ret) .skip))
def pc427:SCode:=(.region false [⟨some 5,.bslice [] 0 4 [],none,false⟩,
  ⟨some 6,.mv (.t 0),none,false⟩,
  ⟨some 7,.append 4 32 [(.int .i64 0),(.int .i64 0),(.int .i64 0),(.int .i64 0)] [] (.t 5) (.t 6),none,false⟩,
  ⟨some 2,.mv (.t 7),none,false⟩])
def s_slices_Clone_api_Rect_api_Rect:SFn:=⟨1,[.t 2],(.seq (.region false [⟨some 2,.mv (.v .nils),none,false⟩]) (.seq (.kp [0] pc426) (.seq pc427 .ret)))⟩
def pc428:SCode:=(.region false [⟨some 5,.mv (.t 0),none,false⟩,
  ⟨some 6,.call f_grid_World_is [(.t 5)],none,false⟩,
  ⟨some 7,.un .not (.t 6),none,false⟩,
  ⟨some 8,.mv (.t 7),none,false⟩,
  ⟨some 9,.mv (.t 1),(some (8,false)),false⟩,
  ⟨some 10,.bin .lss (.t 9) (.v (.int .i64 0)),(some (8,false)),false⟩,
  ⟨some 11,.pick (.t 8) (.v (.bool true)) (.t 10),none,false⟩,
  ⟨some 12,.mv (.t 11),none,false⟩,
  ⟨some 13,.mv (.t 1),(some (12,false)),false⟩,
  ⟨some 14,.mv (.t 0),(some (12,false)),false⟩,
  ⟨some 15,.nilck (.t 14),(some (12,false)),false⟩,
  ⟨some 16,.faddr 5 (.t 15),(some (12,false)),false⟩,
  ⟨some 17,.load none (.t 16),(some (12,false)),false⟩,
  ⟨some 18,.len (.t 17),(some (12,false)),false⟩,
  ⟨some 19,.bin .geq (.t 13) (.t 18),(some (12,false)),false⟩,
  ⟨some 20,.pick (.t 12) (.v (.bool true)) (.t 19),none,false⟩])
def pc429:SCode:=(.region false [⟨some 21,.mv (.t 0),none,false⟩,
  ⟨some 22,.nilck (.t 21),none,false⟩,
  ⟨some 23,.faddr 5 (.t 22),none,false⟩,
  ⟨some 24,.load none (.t 23),none,false⟩,
  ⟨some 25,.mv (.t 1),none,false⟩,
  ⟨some 26,.slice 4 (.t 24) (some (.t 25)) none none,none,false⟩,
  ⟨some 27,.call f_slices_Clone_api_Rect_api_Rect [(.t 26)],none,false⟩,
  ⟨some 4,.mv (.t 27),none,false⟩])
def pc430:SCode:=(.seq (.region false [⟨some 4,.mv (.v .nils),none,false⟩]) (.seq (.kp [0,1] (.seq (.kp [0,1,20] pc428) (.cond (.t 20) (.seq (.region false [⟨some 4,.mv (.v .nils),none,false⟩]) .ret) .skip))) (.seq (.kp [4] pc429) .ret)))
def s_grid_World_Dirty:SFn:=⟨2,[.t 4],pc430⟩
def pc431:SCode:=(.region false [⟨some 16,.load none (.t 1),none,false⟩,
  ⟨some 17,.eq false false [.ptr] (.t 16) (.v .nilp),none,false⟩,
  ⟨some 18,.mv (.t 17),none,false⟩,
  ⟨some 19,.load none (.t 1),(some (18,false)),false⟩,
  ⟨some 20,.nilck (.t 19),(some (18,false)),false⟩,
  ⟨some 21,.faddr 0 (.t 20),(some (18,false)),false⟩,
  ⟨some 22,.load none (.t 21),(some (18,false)),false⟩,
  ⟨some 23,.eq false false [.ptr] (.t 22) (.v .nilp),(some (18,false)),false⟩,
  ⟨some 24,.pick (.t 18) (.v (.bool true)) (.t 23),none,false⟩])
def pc432:SCode:=(.kp [1] (.seq (.kp [1,24] pc431) (.cond (.t 24) (.seq (.region false [⟨some 2,.mv (.v (.int .i64 0)),none,false⟩,
  ⟨some 3,.mv (.v (.int .i64 1)),none,false⟩]) .ret) .skip)))
def pc433:SCode:=(.region true [⟨some 26,.load none (.t 1),none,true⟩,
  ⟨some 27,.nilck (.t 26),none,true⟩,
  ⟨some 28,.faddr 0 (.t 27),none,true⟩,
  ⟨some 29,.load none (.t 28),none,true⟩,
  ⟨some 30,.load none (.t 1),none,true⟩,
  ⟨some 31,.nilck (.t 30),none,true⟩,
  ⟨some 32,.faddr 7 (.t 31),none,true⟩,
  ⟨some 33,.load none (.t 32),none,true⟩,
  ⟨some 36,.mv (.v (.int .i64 0)),none,true⟩,
  ⟨some 34,.call f_grid_World_Dirty [(.t 29),(.t 33)],none,false⟩,
  ⟨some 35,.len (.t 34),none,false⟩])
def pc434:SCode:=(.region false [⟨some 38,.iaddr 4 (.t 34) (.t 36),none,false⟩,
  ⟨some 39,.load (some 4) (.t 38),none,false⟩,
  ⟨some 6,.alloc true [(.int .i64 0),(.int .i64 0),(.int .i64 0),(.int .i64 0)],none,false⟩,
  ⟨none,.store 4 [] (.t 6) (.t 39),none,false⟩])
def pc435:SCode:=(.region true [⟨some 40,.faddr 0 (.t 6),none,true⟩,
  ⟨some 41,.faddr 0 (.t 40),none,true⟩,
  ⟨some 42,.load none (.t 41),none,true⟩,
  ⟨some 43,.bin .sub (.t 42) (.v (.int .i64 4)),none,true⟩,
  ⟨some 44,.bin .add (.t 43) (.v (.int .i64 1)),none,true⟩,
  ⟨some 45,.mxmn true [(.v (.int .i64 0)),(.t 44)],none,true⟩,
  ⟨some 46,.faddr 0 (.t 6),none,true⟩,
  ⟨some 47,.faddr 1 (.t 46),none,true⟩,
  ⟨some 48,.load none (.t 47),none,true⟩,
  ⟨some 49,.bin .sub (.t 48) (.v (.int .i64 4)),none,true⟩,
  ⟨some 50,.bin .add (.t 49) (.v (.int .i64 1)),none,true⟩,
  ⟨some 51,.mxmn true [(.v (.int .i64 0)),(.t 50)],none,true⟩,
  ⟨some 7,.mv (.t 45),none,true⟩,
  ⟨some 8,.mv (.t 51),none,false⟩])
def pc436:SCode:=(.region false [⟨some 52,.mv (.t 7),none,false⟩,
  ⟨some 53,.mv (.t 8),none,false⟩,
  ⟨some 54,.build [(.int .i64 0),(.int .i64 0)] [(0,1,(.t 52)),(1,1,(.t 53))],none,false⟩,
  ⟨some 55,.faddr 0 (.t 6),none,false⟩,
  ⟨some 56,.faddr 0 (.t 55),none,false⟩,
  ⟨some 57,.load none (.t 56),none,false⟩,
  ⟨some 58,.faddr 2 (.t 6),none,false⟩,
  ⟨some 59,.load none (.t 58),none,false⟩,
  ⟨some 60,.bin .add (.t 57) (.t 59),none,false⟩,
  ⟨some 61,.mv (.t 7),none,false⟩,
  ⟨some 62,.bin .sub (.t 60) (.t 61),none,false⟩,
  ⟨some 63,.faddr 0 (.t 6),none,false⟩,
  ⟨some 64,.faddr 1 (.t 63),none,false⟩,
  ⟨some 65,.load none (.t 64),none,false⟩,
  ⟨some 66,.faddr 3 (.t 6),none,false⟩,
  ⟨some 67,.load none (.t 66),none,false⟩,
  ⟨some 68,.bin .add (.t 65) (.t 67),none,false⟩,
  ⟨some 69,.mv (.t 8),none,false⟩,
  ⟨some 70,.bin .sub (.t 68) (.t 69),none,false⟩,
  ⟨some 71,.build [(.int .i64 0),(.int .i64 0),(.int .i64 0),(.int .i64 0)] [(0,2,(.t 54)),(2,1,(.t 62)),(3,1,(.t 70))],none,false⟩,
  ⟨some 9,.alloc true [(.int .i64 0),(.int .i64 0),(.int .i64 0),(.int .i64 0)],none,false⟩,
  ⟨none,.store 4 [] (.t 9) (.t 71),none,false⟩])
def pc437:SCode:=(.region false [⟨some 10,.alloc true [(.int .i64 0),(.int .i64 0)],none,false⟩,
  ⟨none,.store 2 [] (.t 10) (.t 74),none,false⟩])
def pc438:SCode:=(.region false [⟨some 76,.load none (.t 4),none,false⟩,
  ⟨some 77,.load (some 2) (.t 10),none,false⟩,
  ⟨some 78,.lookup true [.int,.int] (.int .i64 0) true (.t 76) (.t 77),none,false⟩,
  ⟨some 75,.mv (.t 78),none,false⟩,
  ⟨some 79,.ext (.t 75) 0,none,false⟩,
  ⟨some 80,.ext (.t 75) 1,none,false⟩,
  ⟨some 11,.mv (.t 79),none,false⟩,
  ⟨some 12,.mv (.t 80),none,false⟩])
def pc439:SCode:=(.region true [⟨some 83,.load none (.t 4),none,true⟩,
  ⟨some 84,.load (some 2) (.t 10),none,true⟩,
  ⟨some 85,.load none (.t 1),none,true⟩,
  ⟨some 86,.load (some 2) (.t 10),none,true⟩,
  ⟨some 87,.call f_clear_Field_At [(.t 85),(.t 86)],none,true⟩,
  ⟨none,.mapset true [.int,.int] (.t 83) (.t 84) (.t 87),none,false⟩])
def pc440:SCode:=(.seq (.kp [1,4,9,10,12,34,35,36] pc438) (.seq (.region false [⟨some 81,.mv (.t 12),none,false⟩,
  ⟨some 82,.un .not (.t 81),none,false⟩]) (.cond (.t 82) pc439 .skip)))
def pc441:SCode:=(.block 3 pc440)
def pc442:SCode:=(.seq (.kp [1,4,9,34,35,36,73] (.region false [⟨some 72,.load (some 4) (.t 9),none,false⟩,
  ⟨some 73,.call f_cell_Cells [(.t 72)],none,false⟩])) (.block 2 (.rangef (.t 73) [74] pc437 pc441)))
def pc443:SCode:=(.seq (.kp [1,4,9,34,35,36] pc442) (.region false [⟨some 88,.load none (.t 1),none,false⟩,
  ⟨some 89,.load (some 4) (.t 9),none,false⟩,
  ⟨some 90,.call f_clear_Field_reckon [(.t 88),(.t 89)],none,false⟩]))
def pc444:SCode:=(.seq (.kp [1,4,34,35,36] (.block 1 (.seq pc434 (.seq (.kp [1,4,6,7,8,34,35,36] pc435) (.seq (.kp [1,4,9,34,35,36] pc436) pc443))))) (.region false [⟨some 91,.bin .add (.t 36) (.v (.int .i64 1)),none,false⟩,
  ⟨some 36,.mv (.t 91),none,false⟩]))
def pc445:SCode:=(.seq (.region false [⟨some 37,.bin .lss (.t 36) (.t 35),none,false⟩]) (.seq (.kp [1,4,34,35,36] (.cond (.t 37) .skip (.exit 0))) pc444))
def pc446:SCode:=(.region true [⟨some 92,.load none (.t 1),none,true⟩,
  ⟨some 93,.load none (.t 1),none,true⟩,
  ⟨some 94,.nilck (.t 93),none,true⟩,
  ⟨some 95,.faddr 0 (.t 94),none,true⟩,
  ⟨some 96,.load none (.t 95),none,true⟩,
  ⟨some 97,.call f_grid_World_Epoch [(.t 96)],none,true⟩,
  ⟨some 98,.nilck (.t 92),none,false⟩,
  ⟨some 99,.faddr 7 (.t 98),none,false⟩,
  ⟨none,.store 1 [] (.t 99) (.t 97),none,false⟩])
def pc447:SCode:=(.region false [⟨some 107,.load none (.t 1),none,false⟩,
  ⟨some 108,.load (some 2) (.t 14),none,false⟩,
  ⟨some 109,.call f_clear_Field_At [(.t 107),(.t 108)],none,false⟩,
  ⟨some 110,.mv (.t 15),none,false⟩,
  ⟨some 111,.bin .neq (.t 109) (.t 110),none,false⟩])
def pc448:SCode:=(.cond (.t 111) (.region false [⟨some 112,.mv (.t 13),none,false⟩,
  ⟨some 113,.bin .add (.t 112) (.v (.int .i64 1)),none,false⟩,
  ⟨some 13,.mv (.t 113),none,false⟩]) .skip)
def pc449:SCode:=(.seq (.kp [1,13,101,111] pc447) pc448)
def pc450:SCode:=(.rangem (.t 100) 101 102 103 4 5 104 [1,13,101] [⟨some 100,.load none (.t 4),none,false⟩] [⟨some 105,.ext (.t 104) 0,none,false⟩,
  ⟨some 106,.ext (.t 104) 1,none,false⟩,
  ⟨some 14,.alloc true [(.int .i64 0),(.int .i64 0)],none,false⟩,
  ⟨none,.store 2 [] (.t 14) (.t 105),none,false⟩,
  ⟨some 15,.mv (.t 106),none,false⟩] pc449)
def pc451:SCode:=(.seq (.kp [1,4,13] (.region false [⟨some 13,.mv (.v (.int .i64 0)),none,false⟩])) (.seq (.kp [13] pc450) (.seq (.region false [⟨some 114,.mv (.t 13),none,false⟩,
  ⟨some 2,.mv (.t 114),none,false⟩,
  ⟨some 3,.mv (.v (.int .i64 0)),none,false⟩]) .ret)))
def pc452:SCode:=(.seq (.region false [⟨some 25,.mkmap,none,false⟩,
  ⟨some 4,.alloc true [.nilm],none,false⟩,
  ⟨none,.store 1 [] (.t 4) (.t 25),none,false⟩]) (.seq (.kp [1,4] (.seq (.kp [1,4,34,35,36] pc433) (.block 0 (.loop (some [1,4,34,35,36]) pc445)))) (.seq (.kp [1,4] pc446) pc451)))
def pc453:SCode:=(.seq (.region false [⟨some 1,.box true 1 (.t 0),none,false⟩,
  ⟨some 2,.mv (.v (.int .i64 0)),none,false⟩,
  ⟨some 3,.mv (.v (.int .i64 0)),none,false⟩]) (.seq pc432 pc452))
def s_clear_Field_Update:SFn:=⟨1,[.t 2,.t 3],pc453⟩
def pc454:SCode:=(.region false [⟨some 6,.mv (.t 0),none,false⟩,
  ⟨some 7,.len (.t 6),none,false⟩,
  ⟨some 8,.mv (.t 1),none,false⟩,
  ⟨some 9,.len (.t 8),none,false⟩,
  ⟨some 10,.bin .neq (.t 7) (.t 9),none,false⟩])
def pc455:SCode:=(.region true [⟨some 16,.mv (.t 0),none,true⟩,
  ⟨some 17,.mv (.t 5),none,true⟩,
  ⟨some 18,.iaddr 1 (.t 16) (.t 17),none,true⟩,
  ⟨some 19,.load none (.t 18),none,true⟩,
  ⟨some 20,.mv (.t 1),none,true⟩,
  ⟨some 21,.mv (.t 5),none,true⟩,
  ⟨some 22,.iaddr 1 (.t 20) (.t 21),none,true⟩,
  ⟨some 23,.load none (.t 22),none,true⟩,
  ⟨some 24,.bin .neq (.t 19) (.t 23),none,false⟩])
def pc456:SCode:=(.seq (.region false [⟨some 15,.mv (.t 13),none,false⟩,
  ⟨some 5,.mv (.t 15),none,false⟩]) (.seq (.kp [0,1,12,13,24] pc455) (.cond (.t 24) (.seq (.region false [⟨some 4,.mv (.v (.bool false)),none,false⟩]) .ret) .skip)))
def pc457:SCode:=(.seq (.kp [0,1,12,13] (.cond (.t 14) .skip (.exit 0))) (.seq (.kp [0,1,12,13] (.block 1 pc456)) (.region false [⟨some 25,.bin .add (.t 13) (.v (.int .i64 1)),none,false⟩,
  ⟨some 13,.mv (.t 25),none,false⟩])))
def pc458:SCode:=(.seq (.region false [⟨some 14,.bin .lss (.t 13) (.t 12),none,false⟩]) pc457)
def pc459:SCode:=(.seq (.kp [0,1,12,13] (.region false [⟨some 11,.mv (.t 0),none,false⟩,
  ⟨some 12,.len (.t 11),none,false⟩,
  ⟨some 13,.mv (.v (.int .i64 0)),none,false⟩])) (.block 0 (.loop (some [0,1,12,13]) pc458)))
def pc460:SCode:=(.seq (.kp [0,1] (.seq (.kp [0,1,10] pc454) (.cond (.t 10) (.seq (.region false [⟨some 4,.mv (.v (.bool false)),none,false⟩]) .ret) .skip))) (.seq (.kp [] pc459) (.seq (.region false [⟨some 4,.mv (.v (.bool true)),none,false⟩]) .ret)))
def s_slices_Equal_int_int:SFn:=⟨2,[.t 4],(.seq (.region false [⟨some 4,.mv (.v (.bool false)),none,false⟩]) pc460)⟩
def pc461:SCode:=(.seq (.region false [⟨some 5,.mv (.t 0),none,false⟩,
  ⟨some 6,.call f_parts_Parts_is [(.t 5)],none,false⟩,
  ⟨some 7,.un .not (.t 6),none,false⟩]) (.cond (.t 7) (.seq (.region false [⟨some 2,.mv (.v (.bool false)),none,false⟩,
  ⟨some 3,.mv (.v (.int .i64 1)),none,false⟩]) .ret) .skip))
def pc462:SCode:=(.region true [⟨some 8,.mv (.t 0),none,true⟩,
  ⟨some 9,.nilck (.t 8),none,true⟩,
  ⟨some 10,.faddr 11 (.t 9),none,true⟩,
  ⟨some 11,.load none (.t 10),none,true⟩,
  ⟨some 12,.mv (.t 0),none,true⟩,
  ⟨some 13,.nilck (.t 12),none,true⟩,
  ⟨some 14,.faddr 0 (.t 13),none,true⟩,
  ⟨some 15,.load none (.t 14),none,true⟩,
  ⟨some 16,.call f_grid_World_Epoch [(.t 15)],none,true⟩,
  ⟨some 17,.bin .eql (.t 11) (.t 16),none,false⟩])
def pc463:SCode:=(.kp [0] (.seq (.kp [0,17] pc462) (.cond (.t 17) (.seq (.region false [⟨some 2,.mv (.v (.bool false)),none,false⟩,
  ⟨some 3,.mv (.v (.int .i64 0)),none,false⟩]) .ret) .skip)))
def pc464:SCode:=(.region false [⟨some 18,.mv (.t 0),none,false⟩,
  ⟨some 19,.nilck (.t 18),none,false⟩,
  ⟨some 20,.faddr 8 (.t 19),none,false⟩,
  ⟨some 21,.load none (.t 20),none,false⟩,
  ⟨some 4,.mv (.t 21),none,false⟩])
def pc465:SCode:=(.region false [⟨some 22,.mv (.t 0),none,false⟩,
  ⟨some 23,.nilck (.t 22),none,false⟩,
  ⟨some 24,.faddr 7 (.t 23),none,false⟩,
  ⟨some 25,.load none (.t 24),none,false⟩,
  ⟨some 26,.call f_clear_Field_Update [(.t 25)],none,false⟩])
def pc466:SCode:=(.region false [⟨some 29,.mv (.t 4),none,false⟩,
  ⟨some 30,.mv (.t 0),none,false⟩,
  ⟨some 31,.nilck (.t 30),none,false⟩,
  ⟨some 32,.faddr 8 (.t 31),none,false⟩,
  ⟨some 33,.load none (.t 32),none,false⟩,
  ⟨some 34,.call f_slices_Equal_int_int [(.t 29),(.t 33)],none,false⟩,
  ⟨some 35,.un .not (.t 34),none,false⟩,
  ⟨some 2,.mv (.t 35),none,false⟩,
  ⟨some 3,.mv (.v (.int .i64 0)),none,false⟩])
def pc467:SCode:=(.seq (.kp [0,4] pc464) (.seq (.kp [0,4] pc465) (.seq (.region false [⟨some 27,.mv (.t 0),none,false⟩,
  ⟨some 28,.call f_parts_Parts_label [(.t 27)],none,false⟩]) (.seq (.kp [2,3] pc466) .ret))))
def s_parts_Parts_Update:SFn:=⟨1,[.t 2,.t 3],(.seq (.region false [⟨some 2,.mv (.v (.bool false)),none,false⟩,
  ⟨some 3,.mv (.v (.int .i64 0)),none,false⟩]) (.seq (.kp [0] pc461) (.seq pc463 pc467)))⟩
def pc468:SCode:=(.region false [⟨some 20,.load (some 4) (.t 3),none,false⟩,
  ⟨some 21,.call f_law06_Both [(.t 20)],none,false⟩,
  ⟨some 19,.mv (.t 21),none,false⟩,
  ⟨some 22,.ext (.t 19) 0,none,false⟩,
  ⟨some 23,.ext (.t 19) 1,none,false⟩,
  ⟨some 24,.ext (.t 19) 2,none,false⟩,
  ⟨some 7,.mv (.t 22),none,false⟩,
  ⟨some 8,.mv (.t 23),none,false⟩,
  ⟨some 9,.mv (.t 24),none,false⟩])
def pc469:SCode:=(.region false [⟨some 26,.mv (.t 7),none,false⟩,
  ⟨some 27,.load (some 2) (.t 4),none,false⟩,
  ⟨some 28,.call f_parts_New [(.t 26),(.t 27)],none,false⟩,
  ⟨some 25,.mv (.t 28),none,false⟩,
  ⟨some 29,.ext (.t 25) 0,none,false⟩,
  ⟨some 30,.ext (.t 25) 1,none,false⟩,
  ⟨some 10,.mv (.t 29),none,false⟩,
  ⟨some 11,.mv (.t 30),none,false⟩])
def pc470:SCode:=(.region false [⟨some 31,.mv (.t 9),none,false⟩,
  ⟨some 32,.un .not (.t 31),none,false⟩,
  ⟨some 33,.mv (.t 32),none,false⟩,
  ⟨some 34,.mv (.t 11),(some (33,false)),false⟩,
  ⟨some 35,.bin .neq (.t 34) (.v (.int .i64 0)),(some (33,false)),false⟩,
  ⟨some 36,.pick (.t 33) (.v (.bool true)) (.t 35),none,false⟩,
  ⟨some 37,.mv (.t 36),none,false⟩,
  ⟨some 38,.faddr 0 (.t 3),(some (37,false)),false⟩,
  ⟨some 39,.load none (.t 38),(some (37,false)),false⟩,
  ⟨some 40,.faddr 1 (.t 3),(some (37,false)),false⟩,
  ⟨some 41,.load none (.t 40),(some (37,false)),false⟩,
  ⟨some 42,.bin .mul (.t 39) (.t 41),(some (37,false)),false⟩,
  ⟨some 43,.bin .gtr (.t 42) (.v (.int .i64 1500)),(some (37,false)),false⟩,
  ⟨some 44,.pick (.t 37) (.v (.bool true)) (.t 43),none,false⟩,
  ⟨some 45,.mv (.t 44),none,false⟩,
  ⟨some 46,.mv (.t 2),(some (45,false)),false⟩,
  ⟨some 47,.len (.t 46),(some (45,false)),false⟩,
  ⟨some 48,.bin .gtr (.t 47) (.v (.int .i64 60)),(some (45,false)),false⟩,
  ⟨some 49,.pick (.t 45) (.v (.bool true)) (.t 48),none,false⟩])
def pc471:SCode:=(.kp [2,4,7,8,10] (.seq (.kp [2,4,7,8,10,49] pc470) (.cond (.t 49) (.seq (.region false [⟨some 50,.call f_law08_awake [],none,false⟩,
  ⟨some 6,.mv (.t 50),none,false⟩]) .ret) .skip)))
def pc472:SCode:=(.region false [⟨some 51,.mv (.t 8),none,false⟩,
  ⟨some 52,.load (some 2) (.t 4),none,false⟩,
  ⟨some 53,.call f_ref08_Of [(.t 51),(.t 52)],none,false⟩,
  ⟨some 54,.call f_ref08_Ground_Labels [(.t 53)],none,false⟩,
  ⟨some 12,.mv (.t 54),none,false⟩])
def pc473:SCode:=(.region false [⟨some 55,.mv (.t 13),none,false⟩,
  ⟨some 56,.mv (.t 2),none,false⟩,
  ⟨some 57,.len (.t 56),none,false⟩,
  ⟨some 58,.bin .lss (.t 55) (.t 57),none,false⟩])
def pc474:SCode:=(.region false [⟨some 61,.mv (.t 7),none,false⟩,
  ⟨some 62,.mv (.t 8),none,false⟩,
  ⟨some 63,.mv (.t 2),none,false⟩,
  ⟨some 64,.mv (.t 13),none,false⟩,
  ⟨some 65,.iaddr 6 (.t 63) (.t 64),none,false⟩,
  ⟨some 66,.load (some 6) (.t 65),none,false⟩,
  ⟨some 67,.call f_law07_Does [(.t 61),(.t 62),(.t 66)],none,false⟩])
def pc475:SCode:=(.region false [⟨some 69,.mv (.t 10),none,false⟩,
  ⟨some 70,.call f_parts_Parts_Update [(.t 69)],none,false⟩,
  ⟨some 68,.mv (.t 70),none,false⟩,
  ⟨some 71,.ext (.t 68) 0,none,false⟩,
  ⟨some 72,.ext (.t 68) 1,none,false⟩,
  ⟨some 14,.mv (.t 71),none,false⟩,
  ⟨some 15,.mv (.t 72),none,false⟩])
def pc476:SCode:=(.region false [⟨some 73,.mv (.t 8),none,false⟩,
  ⟨some 74,.load (some 2) (.t 4),none,false⟩,
  ⟨some 75,.call f_ref08_Of [(.t 73),(.t 74)],none,false⟩,
  ⟨some 76,.call f_ref08_Ground_Labels [(.t 75)],none,false⟩,
  ⟨some 16,.mv (.t 76),none,false⟩])
def pc477:SCode:=(.region false [⟨some 77,.mv (.t 18),none,false⟩,
  ⟨some 78,.mv (.t 16),none,false⟩,
  ⟨some 79,.len (.t 78),none,false⟩,
  ⟨some 80,.bin .lss (.t 77) (.t 79),none,false⟩])
def pc478:SCode:=(.region true [⟨some 83,.mv (.t 17),none,false⟩,
  ⟨some 84,.mv (.t 83),none,false⟩,
  ⟨some 85,.mv (.t 16),(some (84,false)),true⟩,
  ⟨some 86,.mv (.t 18),(some (84,false)),true⟩,
  ⟨some 87,.iaddr 1 (.t 85) (.t 86),(some (84,false)),true⟩,
  ⟨some 88,.load none (.t 87),(some (84,false)),true⟩,
  ⟨some 89,.mv (.t 12),(some (84,false)),true⟩,
  ⟨some 90,.mv (.t 18),(some (84,false)),true⟩,
  ⟨some 91,.iaddr 1 (.t 89) (.t 90),(some (84,false)),true⟩,
  ⟨some 92,.load none (.t 91),(some (84,false)),true⟩,
  ⟨some 93,.bin .neq (.t 88) (.t 92),(some (84,false)),false⟩,
  ⟨some 94,.pick (.t 84) (.v (.bool true)) (.t 93),none,false⟩,
  ⟨some 17,.mv (.t 94),none,false⟩])
def pc479:SCode:=(.seq (.kp [2,4,7,8,10,12,13,14,15,16,17,18] (.block 3 pc478)) (.region false [⟨some 81,.mv (.t 18),none,false⟩,
  ⟨some 82,.bin .add (.t 81) (.v (.int .i64 1)),none,false⟩,
  ⟨some 18,.mv (.t 82),none,false⟩]))
def pc480:SCode:=(.seq (.kp [2,4,7,8,10,12,13,14,15,16,17,18] (.seq pc477 (.cond (.t 80) .skip (.exit 2)))) pc479)
def pc481:SCode:=(.seq (.kp [2,4,7,8,10,12,13,14,15,16,17,18] (.region false [⟨some 18,.mv (.v (.int .i64 0)),none,false⟩])) (.block 2 (.loop (some [2,4,7,8,10,12,13,14,15,16,17,18]) pc480)))
def pc482:SCode:=(.region false [⟨some 96,.mv (.t 15),none,false⟩,
  ⟨some 97,.bin .neq (.t 96) (.v (.int .i64 0)),none,false⟩,
  ⟨some 98,.mv (.t 97),none,false⟩,
  ⟨some 99,.mv (.t 14),(some (98,false)),false⟩,
  ⟨some 100,.mv (.t 17),(some (98,false)),false⟩,
  ⟨some 101,.eq true false [.bool] (.t 99) (.t 100),(some (98,false)),false⟩,
  ⟨some 102,.pick (.t 98) (.v (.bool true)) (.t 101),none,false⟩,
  ⟨some 103,.mv (.t 102),none,false⟩,
  ⟨some 104,.mv (.t 10),(some (103,false)),false⟩,
  ⟨some 105,.mv (.t 8),(some (103,false)),false⟩,
  ⟨some 106,.load (some 2) (.t 4),(some (103,false)),false⟩,
  ⟨some 107,.call f_law08_right [(.t 104),(.t 105),(.t 106)],(some (103,false)),false⟩,
  ⟨some 108,.un .not (.t 107),(some (103,false)),false⟩,
  ⟨some 109,.pick (.t 103) (.v (.bool true)) (.t 108),none,false⟩])
def pc483:SCode:=(.seq (.region false [⟨some 95,.mv (.t 16),none,false⟩,
  ⟨some 12,.mv (.t 95),none,false⟩]) (.seq (.kp [2,4,7,8,10,12,13,109] pc482) (.cond (.t 109) (.seq (.region false [⟨some 6,.mv (.v (.bool false)),none,false⟩]) .ret) .skip)))
def pc484:SCode:=(.seq (.kp [2,4,7,8,10,12,13,14,15,16] pc476) (.seq (.region false [⟨some 17,.mv (.v (.bool false)),none,false⟩]) (.seq (.kp [2,4,7,8,10,13,14,15,16,17] pc481) pc483)))
def pc485:SCode:=(.seq (.kp [2,4,7,8,10,12,13] (.block 1 (.seq (.kp [2,4,7,8,10,12,13] pc474) (.seq (.kp [2,4,7,8,10,12,13,14,15] pc475) pc484)))) (.region false [⟨some 59,.mv (.t 13),none,false⟩,
  ⟨some 60,.bin .add (.t 59) (.v (.int .i64 1)),none,false⟩,
  ⟨some 13,.mv (.t 60),none,false⟩]))
def pc486:SCode:=(.seq (.kp [2,4,7,8,10,12,13] (.seq pc473 (.cond (.t 58) .skip (.exit 0)))) pc485)
def pc487:SCode:=(.seq (.kp [] (.seq (.kp [2,4,7,8,10,12,13] (.region false [⟨some 13,.mv (.v (.int .i64 0)),none,false⟩])) (.block 0 (.loop (some [2,4,7,8,10,12,13]) pc486)))) (.seq (.region false [⟨some 110,.call f_law08_awake [],none,false⟩,
  ⟨some 6,.mv (.t 110),none,false⟩]) .ret))
def pc488:SCode:=(.seq (.region false [⟨some 3,.box true 4 (.t 0),none,false⟩,
  ⟨some 4,.box true 2 (.t 1),none,false⟩,
  ⟨some 6,.mv (.v (.bool false)),none,false⟩]) (.seq (.kp [2,3,4,7,8,9] pc468) (.seq (.kp [2,3,4,7,8,9,10,11] pc469) (.seq pc471 (.seq (.kp [2,4,7,8,10,12] pc472) pc487)))))
def s_law08_PartsUpdates:SFn:=⟨3,[.t 6],pc488⟩
def tb:Tbl:=fun f=>match f with
  | 10=>some s_law08_PartsUpdates
  | 11=>some s_law06_Both
  | 12=>some s_parts_New
  | 13=>some s_law08_awake
  | 14=>some s_ref08_Of
  | 16=>some s_ref04_All
  | 18=>some s_ref08_Ground_Stands
  | 24=>some s_ref03_Near
  | 30=>some s_ref06_May
  | 31=>some s_law08_right
  | 34=>some s_parts_Parts_Update
  | 35=>some s_parts_Parts_First
  | 36=>some s_parts_Parts_At
  | 37=>some s_parts_Parts_Len
  | 38=>some s_parts_Parts_Size
  | 39=>some s_ref08_Ground_Labels
  | 40=>some s_law07_Does
  | 41=>some s_grid_New
  | 42=>some s_ref04_New
  | 43=>some s_clear_New
  | 44=>some s_class_May
  | 45=>some s_grid_World_All
  | 46=>some s_parts_Parts_label
  | 47=>some s_ref06_Stands
  | 48=>some s_ref03_May
  | 49=>some s_ref03_Has
  | 50=>some s_ref03_Meet
  | 53=>some s_ref08_Ground_Steps
  | 56=>some s_cell_Near
  | 60=>some s_ref03_near
  | 66=>some s_parts_Parts_is
  | 67=>some s_grid_World_Epoch
  | 68=>some s_clear_Field_Update
  | 69=>some s_slices_Equal_int_int
  | 70=>some s_cell_Has
  | 71=>some s_grid_World_Raze
  | 72=>some s_ref04_Raze
  | 73=>some s_grid_World_Place
  | 74=>some s_ref04_Place
  | 75=>some s_slices_Clone_byte_byte
  | 76=>some s_ref04_Check
  | 77=>some s_cell_May
  | 78=>some s_clear_Field_reckon
  | 79=>some s_grid_World_is
  | 80=>some s_cell_Cells
  | 81=>some s_parts_Parts_stands
  | 82=>some s_parts_root
  | 83=>some s_ref06_Foot
  | 84=>some s_ref03_Within
  | 85=>some s_ref04_Terrain
  | 86=>some s_ref04_At
  | 87=>some s_ref06_On
  | 88=>some s_ref03_Last
  | 89=>some s_ref03_Step
  | 90=>some s_ref03_Sides
  | 91=>some s_cell_near
  | 93=>some s_class_Stands
  | 96=>some s_grid_World_Dirty
  | 97=>some s_clear_Field_At
  | 98=>some s_cell_last
  | 99=>some s_ref04_place
  | 100=>some s_grid_World_May
  | 101=>some s_ref04_May
  | 102=>some s_ref04_MayBe
  | 103=>some s_ref04_share
  | 104=>some s_cell_side
  | 105=>some s_clear_Field_tile
  | 106=>some s_cell_Cells_1
  | 107=>some s_ref03_Turn
  | 108=>some s_class_Foot
  | 109=>some s_cell_Within
  | 110=>some s_grid_World_Terrain
  | 111=>some s_grid_World_At
  | 112=>some s_class_On
  | 116=>some s_slices_Clone_api_Rect_api_Rect
  | 117=>some s_grid_may
  | _=>none
section
variable {F:Tbl} {K:List KI} {fr:Fr} {m:Mem}
@[go_sem] def uq0:=@RK_unf F K fr m _ _ pc0.eq_1
theorem t_cell_near:tb f_cell_near=some s_cell_near:=rfl
@[go_sem] def uq1:=@RK_unf F K fr m _ _ pc1.eq_1
theorem t_cell_Near:tb f_cell_Near=some s_cell_Near:=rfl
@[go_sem] def uq2:=@RK_unf F K fr m _ _ pc2.eq_1
theorem t_cell_last:tb f_cell_last=some s_cell_last:=rfl
@[go_sem] def uq3:=@RK_unf F K fr m _ _ pc3.eq_1
theorem t_cell_side:tb f_cell_side=some s_cell_side:=rfl
@[go_sem] def uq4:=@RK_unf F K fr m _ _ pc4.eq_1
theorem t_cell_May:tb f_cell_May=some s_cell_May:=rfl
@[go_sem] def uq5:=@RK_unf F K fr m _ _ pc5.eq_1
@[go_sem] def uq6:=@RK_unf F K fr m _ _ pc6.eq_1
@[go_sem] def uq7:=@RK_unf F K fr m _ _ pc7.eq_1
@[go_sem] def uq8:=@RK_unf F K fr m _ _ pc8.eq_1
@[go_sem] def uq9:=@RK_unf F K fr m _ _ pc9.eq_1
@[go_sem] def uq10:=@RK_unf F K fr m _ _ pc10.eq_1
@[go_sem] def uq11:=@RK_unf F K fr m _ _ pc11.eq_1
@[go_sem] def uq12:=@RK_unf F K fr m _ _ pc12.eq_1
@[go_sem] def uq13:=@RK_unf F K fr m _ _ pc13.eq_1
@[go_sem] def uq14:=@RK_unf F K fr m _ _ pc14.eq_1
theorem t_cell_Cells_1:tb f_cell_Cells_1=some s_cell_Cells_1:=rfl
@[go_sem] def uq15:=@RK_unf F K fr m _ _ pc15.eq_1
theorem t_cell_Cells:tb f_cell_Cells=some s_cell_Cells:=rfl
@[go_sem] def uq16:=@RK_unf F K fr m _ _ pc16.eq_1
theorem t_grid_World_is:tb f_grid_World_is=some s_grid_World_is:=rfl
@[go_sem] def uq17:=@RK_unf F K fr m _ _ pc17.eq_1
@[go_sem] def uq18:=@RK_unf F K fr m _ _ pc18.eq_1
@[go_sem] def uq19:=@RK_unf F K fr m _ _ pc19.eq_1
theorem t_grid_World_All:tb f_grid_World_All=some s_grid_World_All:=rfl
@[go_sem] def uq20:=@RK_unf F K fr m _ _ pc20.eq_1
@[go_sem] def uq21:=@RK_unf F K fr m _ _ pc21.eq_1
@[go_sem] def uq22:=@RK_unf F K fr m _ _ pc22.eq_1
@[go_sem] def uq23:=@RK_unf F K fr m _ _ pc23.eq_1
theorem t_cell_Has:tb f_cell_Has=some s_cell_Has:=rfl
@[go_sem] def uq24:=@RK_unf F K fr m _ _ pc24.eq_1
@[go_sem] def uq25:=@RK_unf F K fr m _ _ pc25.eq_1
theorem t_cell_Within:tb f_cell_Within=some s_cell_Within:=rfl
@[go_sem] def uq26:=@RK_unf F K fr m _ _ pc26.eq_1
@[go_sem] def uq27:=@RK_unf F K fr m _ _ pc27.eq_1
theorem t_grid_may:tb f_grid_may=some s_grid_may:=rfl
@[go_sem] def uq28:=@RK_unf F K fr m _ _ pc28.eq_1
@[go_sem] def uq29:=@RK_unf F K fr m _ _ pc29.eq_1
@[go_sem] def uq30:=@RK_unf F K fr m _ _ pc30.eq_1
@[go_sem] def uq31:=@RK_unf F K fr m _ _ pc31.eq_1
@[go_sem] def uq32:=@RK_unf F K fr m _ _ pc32.eq_1
@[go_sem] def uq33:=@RK_unf F K fr m _ _ pc33.eq_1
@[go_sem] def uq34:=@RK_unf F K fr m _ _ pc34.eq_1
@[go_sem] def uq35:=@RK_unf F K fr m _ _ pc35.eq_1
@[go_sem] def uq36:=@RK_unf F K fr m _ _ pc36.eq_1
@[go_sem] def uq37:=@RK_unf F K fr m _ _ pc37.eq_1
@[go_sem] def uq38:=@RK_unf F K fr m _ _ pc38.eq_1
theorem t_grid_World_May:tb f_grid_World_May=some s_grid_World_May:=rfl
@[go_sem] def uq39:=@RK_unf F K fr m _ _ pc39.eq_1
@[go_sem] def uq40:=@RK_unf F K fr m _ _ pc40.eq_1
@[go_sem] def uq41:=@RK_unf F K fr m _ _ pc41.eq_1
@[go_sem] def uq42:=@RK_unf F K fr m _ _ pc42.eq_1
@[go_sem] def uq43:=@RK_unf F K fr m _ _ pc43.eq_1
@[go_sem] def uq44:=@RK_unf F K fr m _ _ pc44.eq_1
@[go_sem] def uq45:=@RK_unf F K fr m _ _ pc45.eq_1
@[go_sem] def uq46:=@RK_unf F K fr m _ _ pc46.eq_1
@[go_sem] def uq47:=@RK_unf F K fr m _ _ pc47.eq_1
theorem t_grid_World_Place:tb f_grid_World_Place=some s_grid_World_Place:=rfl
@[go_sem] def uq48:=@RK_unf F K fr m _ _ pc48.eq_1
@[go_sem] def uq49:=@RK_unf F K fr m _ _ pc49.eq_1
theorem t_slices_Clone_byte_byte:tb f_slices_Clone_byte_byte=some s_slices_Clone_byte_byte:=rfl
@[go_sem] def uq50:=@RK_unf F K fr m _ _ pc50.eq_1
@[go_sem] def uq51:=@RK_unf F K fr m _ _ pc51.eq_1
@[go_sem] def uq52:=@RK_unf F K fr m _ _ pc52.eq_1
@[go_sem] def uq53:=@RK_unf F K fr m _ _ pc53.eq_1
@[go_sem] def uq54:=@RK_unf F K fr m _ _ pc54.eq_1
@[go_sem] def uq55:=@RK_unf F K fr m _ _ pc55.eq_1
@[go_sem] def uq56:=@RK_unf F K fr m _ _ pc56.eq_1
@[go_sem] def uq57:=@RK_unf F K fr m _ _ pc57.eq_1
@[go_sem] def uq58:=@RK_unf F K fr m _ _ pc58.eq_1
@[go_sem] def uq59:=@RK_unf F K fr m _ _ pc59.eq_1
@[go_sem] def uq60:=@RK_unf F K fr m _ _ pc60.eq_1
@[go_sem] def uq61:=@RK_unf F K fr m _ _ pc61.eq_1
@[go_sem] def uq62:=@RK_unf F K fr m _ _ pc62.eq_1
@[go_sem] def uq63:=@RK_unf F K fr m _ _ pc63.eq_1
@[go_sem] def uq64:=@RK_unf F K fr m _ _ pc64.eq_1
@[go_sem] def uq65:=@RK_unf F K fr m _ _ pc65.eq_1
@[go_sem] def uq66:=@RK_unf F K fr m _ _ pc66.eq_1
@[go_sem] def uq67:=@RK_unf F K fr m _ _ pc67.eq_1
theorem t_grid_New:tb f_grid_New=some s_grid_New:=rfl
@[go_sem] def uq68:=@RK_unf F K fr m _ _ pc68.eq_1
theorem t_ref03_Last:tb f_ref03_Last=some s_ref03_Last:=rfl
@[go_sem] def uq69:=@RK_unf F K fr m _ _ pc69.eq_1
theorem t_ref03_near:tb f_ref03_near=some s_ref03_near:=rfl
@[go_sem] def uq70:=@RK_unf F K fr m _ _ pc70.eq_1
theorem t_ref03_Near:tb f_ref03_Near=some s_ref03_Near:=rfl
@[go_sem] def uq71:=@RK_unf F K fr m _ _ pc71.eq_1
theorem t_ref03_May:tb f_ref03_May=some s_ref03_May:=rfl
@[go_sem] def uq72:=@RK_unf F K fr m _ _ pc72.eq_1
@[go_sem] def uq73:=@RK_unf F K fr m _ _ pc73.eq_1
theorem t_ref03_Has:tb f_ref03_Has=some s_ref03_Has:=rfl
@[go_sem] def uq74:=@RK_unf F K fr m _ _ pc74.eq_1
@[go_sem] def uq75:=@RK_unf F K fr m _ _ pc75.eq_1
theorem t_ref03_Within:tb f_ref03_Within=some s_ref03_Within:=rfl
@[go_sem] def uq76:=@RK_unf F K fr m _ _ pc76.eq_1
@[go_sem] def uq77:=@RK_unf F K fr m _ _ pc77.eq_1
theorem t_ref04_MayBe:tb f_ref04_MayBe=some s_ref04_MayBe:=rfl
@[go_sem] def uq78:=@RK_unf F K fr m _ _ pc78.eq_1
@[go_sem] def uq79:=@RK_unf F K fr m _ _ pc79.eq_1
@[go_sem] def uq80:=@RK_unf F K fr m _ _ pc80.eq_1
@[go_sem] def uq81:=@RK_unf F K fr m _ _ pc81.eq_1
@[go_sem] def uq82:=@RK_unf F K fr m _ _ pc82.eq_1
@[go_sem] def uq83:=@RK_unf F K fr m _ _ pc83.eq_1
@[go_sem] def uq84:=@RK_unf F K fr m _ _ pc84.eq_1
@[go_sem] def uq85:=@RK_unf F K fr m _ _ pc85.eq_1
@[go_sem] def uq86:=@RK_unf F K fr m _ _ pc86.eq_1
@[go_sem] def uq87:=@RK_unf F K fr m _ _ pc87.eq_1
@[go_sem] def uq88:=@RK_unf F K fr m _ _ pc88.eq_1
@[go_sem] def uq89:=@RK_unf F K fr m _ _ pc89.eq_1
@[go_sem] def uq90:=@RK_unf F K fr m _ _ pc90.eq_1
@[go_sem] def uq91:=@RK_unf F K fr m _ _ pc91.eq_1
@[go_sem] def uq92:=@RK_unf F K fr m _ _ pc92.eq_1
@[go_sem] def uq93:=@RK_unf F K fr m _ _ pc93.eq_1
@[go_sem] def uq94:=@RK_unf F K fr m _ _ pc94.eq_1
@[go_sem] def uq95:=@RK_unf F K fr m _ _ pc95.eq_1
@[go_sem] def uq96:=@RK_unf F K fr m _ _ pc96.eq_1
theorem t_ref03_Meet:tb f_ref03_Meet=some s_ref03_Meet:=rfl
@[go_sem] def uq97:=@RK_unf F K fr m _ _ pc97.eq_1
@[go_sem] def uq98:=@RK_unf F K fr m _ _ pc98.eq_1
theorem t_ref04_share:tb f_ref04_share=some s_ref04_share:=rfl
@[go_sem] def uq99:=@RK_unf F K fr m _ _ pc99.eq_1
@[go_sem] def uq100:=@RK_unf F K fr m _ _ pc100.eq_1
@[go_sem] def uq101:=@RK_unf F K fr m _ _ pc101.eq_1
@[go_sem] def uq102:=@RK_unf F K fr m _ _ pc102.eq_1
@[go_sem] def uq103:=@RK_unf F K fr m _ _ pc103.eq_1
@[go_sem] def uq104:=@RK_unf F K fr m _ _ pc104.eq_1
@[go_sem] def uq105:=@RK_unf F K fr m _ _ pc105.eq_1
@[go_sem] def uq106:=@RK_unf F K fr m _ _ pc106.eq_1
@[go_sem] def uq107:=@RK_unf F K fr m _ _ pc107.eq_1
@[go_sem] def uq108:=@RK_unf F K fr m _ _ pc108.eq_1
@[go_sem] def uq109:=@RK_unf F K fr m _ _ pc109.eq_1
@[go_sem] def uq110:=@RK_unf F K fr m _ _ pc110.eq_1
@[go_sem] def uq111:=@RK_unf F K fr m _ _ pc111.eq_1
@[go_sem] def uq112:=@RK_unf F K fr m _ _ pc112.eq_1
@[go_sem] def uq113:=@RK_unf F K fr m _ _ pc113.eq_1
@[go_sem] def uq114:=@RK_unf F K fr m _ _ pc114.eq_1
theorem t_ref04_Check:tb f_ref04_Check=some s_ref04_Check:=rfl
@[go_sem] def uq115:=@RK_unf F K fr m _ _ pc115.eq_1
@[go_sem] def uq116:=@RK_unf F K fr m _ _ pc116.eq_1
@[go_sem] def uq117:=@RK_unf F K fr m _ _ pc117.eq_1
@[go_sem] def uq118:=@RK_unf F K fr m _ _ pc118.eq_1
@[go_sem] def uq119:=@RK_unf F K fr m _ _ pc119.eq_1
@[go_sem] def uq120:=@RK_unf F K fr m _ _ pc120.eq_1
theorem t_ref04_New:tb f_ref04_New=some s_ref04_New:=rfl
@[go_sem] def uq121:=@RK_unf F K fr m _ _ pc121.eq_1
@[go_sem] def uq122:=@RK_unf F K fr m _ _ pc122.eq_1
@[go_sem] def uq123:=@RK_unf F K fr m _ _ pc123.eq_1
@[go_sem] def uq124:=@RK_unf F K fr m _ _ pc124.eq_1
theorem t_law06_Both:tb f_law06_Both=some s_law06_Both:=rfl
@[go_sem] def uq125:=@RK_unf F K fr m _ _ pc125.eq_1
@[go_sem] def uq126:=@RK_unf F K fr m _ _ pc126.eq_1
@[go_sem] def uq127:=@RK_unf F K fr m _ _ pc127.eq_1
@[go_sem] def uq128:=@RK_unf F K fr m _ _ pc128.eq_1
@[go_sem] def uq129:=@RK_unf F K fr m _ _ pc129.eq_1
@[go_sem] def uq130:=@RK_unf F K fr m _ _ pc130.eq_1
@[go_sem] def uq131:=@RK_unf F K fr m _ _ pc131.eq_1
@[go_sem] def uq132:=@RK_unf F K fr m _ _ pc132.eq_1
@[go_sem] def uq133:=@RK_unf F K fr m _ _ pc133.eq_1
@[go_sem] def uq134:=@RK_unf F K fr m _ _ pc134.eq_1
@[go_sem] def uq135:=@RK_unf F K fr m _ _ pc135.eq_1
@[go_sem] def uq136:=@RK_unf F K fr m _ _ pc136.eq_1
@[go_sem] def uq137:=@RK_unf F K fr m _ _ pc137.eq_1
theorem t_grid_World_Raze:tb f_grid_World_Raze=some s_grid_World_Raze:=rfl
@[go_sem] def uq138:=@RK_unf F K fr m _ _ pc138.eq_1
theorem t_ref04_All:tb f_ref04_All=some s_ref04_All:=rfl
@[go_sem] def uq139:=@RK_unf F K fr m _ _ pc139.eq_1
@[go_sem] def uq140:=@RK_unf F K fr m _ _ pc140.eq_1
@[go_sem] def uq141:=@RK_unf F K fr m _ _ pc141.eq_1
@[go_sem] def uq142:=@RK_unf F K fr m _ _ pc142.eq_1
@[go_sem] def uq143:=@RK_unf F K fr m _ _ pc143.eq_1
theorem t_ref04_place:tb f_ref04_place=some s_ref04_place:=rfl
@[go_sem] def uq144:=@RK_unf F K fr m _ _ pc144.eq_1
@[go_sem] def uq145:=@RK_unf F K fr m _ _ pc145.eq_1
@[go_sem] def uq146:=@RK_unf F K fr m _ _ pc146.eq_1
@[go_sem] def uq147:=@RK_unf F K fr m _ _ pc147.eq_1
@[go_sem] def uq148:=@RK_unf F K fr m _ _ pc148.eq_1
@[go_sem] def uq149:=@RK_unf F K fr m _ _ pc149.eq_1
@[go_sem] def uq150:=@RK_unf F K fr m _ _ pc150.eq_1
@[go_sem] def uq151:=@RK_unf F K fr m _ _ pc151.eq_1
@[go_sem] def uq152:=@RK_unf F K fr m _ _ pc152.eq_1
@[go_sem] def uq153:=@RK_unf F K fr m _ _ pc153.eq_1
theorem t_ref04_May:tb f_ref04_May=some s_ref04_May:=rfl
@[go_sem] def uq154:=@RK_unf F K fr m _ _ pc154.eq_1
@[go_sem] def uq155:=@RK_unf F K fr m _ _ pc155.eq_1
@[go_sem] def uq156:=@RK_unf F K fr m _ _ pc156.eq_1
@[go_sem] def uq157:=@RK_unf F K fr m _ _ pc157.eq_1
@[go_sem] def uq158:=@RK_unf F K fr m _ _ pc158.eq_1
@[go_sem] def uq159:=@RK_unf F K fr m _ _ pc159.eq_1
@[go_sem] def uq160:=@RK_unf F K fr m _ _ pc160.eq_1
@[go_sem] def uq161:=@RK_unf F K fr m _ _ pc161.eq_1
@[go_sem] def uq162:=@RK_unf F K fr m _ _ pc162.eq_1
@[go_sem] def uq163:=@RK_unf F K fr m _ _ pc163.eq_1
@[go_sem] def uq164:=@RK_unf F K fr m _ _ pc164.eq_1
theorem t_ref04_Place:tb f_ref04_Place=some s_ref04_Place:=rfl
@[go_sem] def uq165:=@RK_unf F K fr m _ _ pc165.eq_1
@[go_sem] def uq166:=@RK_unf F K fr m _ _ pc166.eq_1
@[go_sem] def uq167:=@RK_unf F K fr m _ _ pc167.eq_1
@[go_sem] def uq168:=@RK_unf F K fr m _ _ pc168.eq_1
@[go_sem] def uq169:=@RK_unf F K fr m _ _ pc169.eq_1
@[go_sem] def uq170:=@RK_unf F K fr m _ _ pc170.eq_1
@[go_sem] def uq171:=@RK_unf F K fr m _ _ pc171.eq_1
@[go_sem] def uq172:=@RK_unf F K fr m _ _ pc172.eq_1
@[go_sem] def uq173:=@RK_unf F K fr m _ _ pc173.eq_1
theorem t_ref04_Raze:tb f_ref04_Raze=some s_ref04_Raze:=rfl
@[go_sem] def uq174:=@RK_unf F K fr m _ _ pc174.eq_1
@[go_sem] def uq175:=@RK_unf F K fr m _ _ pc175.eq_1
@[go_sem] def uq176:=@RK_unf F K fr m _ _ pc176.eq_1
@[go_sem] def uq177:=@RK_unf F K fr m _ _ pc177.eq_1
@[go_sem] def uq178:=@RK_unf F K fr m _ _ pc178.eq_1
theorem t_law07_Does:tb f_law07_Does=some s_law07_Does:=rfl
@[go_sem] def uq179:=@RK_unf F K fr m _ _ pc179.eq_1
theorem t_class_May:tb f_class_May=some s_class_May:=rfl
@[go_sem] def uq180:=@RK_unf F K fr m _ _ pc180.eq_1
@[go_sem] def uq181:=@RK_unf F K fr m _ _ pc181.eq_1
@[go_sem] def uq182:=@RK_unf F K fr m _ _ pc182.eq_1
theorem t_clear_Field_At:tb f_clear_Field_At=some s_clear_Field_At:=rfl
@[go_sem] def uq183:=@RK_unf F K fr m _ _ pc183.eq_1
@[go_sem] def uq184:=@RK_unf F K fr m _ _ pc184.eq_1
@[go_sem] def uq185:=@RK_unf F K fr m _ _ pc185.eq_1
@[go_sem] def uq186:=@RK_unf F K fr m _ _ pc186.eq_1
@[go_sem] def uq187:=@RK_unf F K fr m _ _ pc187.eq_1
theorem t_class_Foot:tb f_class_Foot=some s_class_Foot:=rfl
@[go_sem] def uq188:=@RK_unf F K fr m _ _ pc188.eq_1
@[go_sem] def uq189:=@RK_unf F K fr m _ _ pc189.eq_1
theorem t_class_On:tb f_class_On=some s_class_On:=rfl
@[go_sem] def uq190:=@RK_unf F K fr m _ _ pc190.eq_1
@[go_sem] def uq191:=@RK_unf F K fr m _ _ pc191.eq_1
@[go_sem] def uq192:=@RK_unf F K fr m _ _ pc192.eq_1
@[go_sem] def uq193:=@RK_unf F K fr m _ _ pc193.eq_1
theorem t_grid_World_At:tb f_grid_World_At=some s_grid_World_At:=rfl
@[go_sem] def uq194:=@RK_unf F K fr m _ _ pc194.eq_1
@[go_sem] def uq195:=@RK_unf F K fr m _ _ pc195.eq_1
@[go_sem] def uq196:=@RK_unf F K fr m _ _ pc196.eq_1
@[go_sem] def uq197:=@RK_unf F K fr m _ _ pc197.eq_1
theorem t_grid_World_Terrain:tb f_grid_World_Terrain=some s_grid_World_Terrain:=rfl
@[go_sem] def uq198:=@RK_unf F K fr m _ _ pc198.eq_1
@[go_sem] def uq199:=@RK_unf F K fr m _ _ pc199.eq_1
@[go_sem] def uq200:=@RK_unf F K fr m _ _ pc200.eq_1
@[go_sem] def uq201:=@RK_unf F K fr m _ _ pc201.eq_1
@[go_sem] def uq202:=@RK_unf F K fr m _ _ pc202.eq_1
@[go_sem] def uq203:=@RK_unf F K fr m _ _ pc203.eq_1
@[go_sem] def uq204:=@RK_unf F K fr m _ _ pc204.eq_1
@[go_sem] def uq205:=@RK_unf F K fr m _ _ pc205.eq_1
@[go_sem] def uq206:=@RK_unf F K fr m _ _ pc206.eq_1
@[go_sem] def uq207:=@RK_unf F K fr m _ _ pc207.eq_1
@[go_sem] def uq208:=@RK_unf F K fr m _ _ pc208.eq_1
theorem t_class_Stands:tb f_class_Stands=some s_class_Stands:=rfl
@[go_sem] def uq209:=@RK_unf F K fr m _ _ pc209.eq_1
theorem t_clear_Field_tile:tb f_clear_Field_tile=some s_clear_Field_tile:=rfl
@[go_sem] def uq210:=@RK_unf F K fr m _ _ pc210.eq_1
@[go_sem] def uq211:=@RK_unf F K fr m _ _ pc211.eq_1
@[go_sem] def uq212:=@RK_unf F K fr m _ _ pc212.eq_1
@[go_sem] def uq213:=@RK_unf F K fr m _ _ pc213.eq_1
@[go_sem] def uq214:=@RK_unf F K fr m _ _ pc214.eq_1
@[go_sem] def uq215:=@RK_unf F K fr m _ _ pc215.eq_1
@[go_sem] def uq216:=@RK_unf F K fr m _ _ pc216.eq_1
@[go_sem] def uq217:=@RK_unf F K fr m _ _ pc217.eq_1
@[go_sem] def uq218:=@RK_unf F K fr m _ _ pc218.eq_1
@[go_sem] def uq219:=@RK_unf F K fr m _ _ pc219.eq_1
@[go_sem] def uq220:=@RK_unf F K fr m _ _ pc220.eq_1
@[go_sem] def uq221:=@RK_unf F K fr m _ _ pc221.eq_1
@[go_sem] def uq222:=@RK_unf F K fr m _ _ pc222.eq_1
@[go_sem] def uq223:=@RK_unf F K fr m _ _ pc223.eq_1
@[go_sem] def uq224:=@RK_unf F K fr m _ _ pc224.eq_1
@[go_sem] def uq225:=@RK_unf F K fr m _ _ pc225.eq_1
@[go_sem] def uq226:=@RK_unf F K fr m _ _ pc226.eq_1
@[go_sem] def uq227:=@RK_unf F K fr m _ _ pc227.eq_1
theorem t_clear_Field_reckon:tb f_clear_Field_reckon=some s_clear_Field_reckon:=rfl
@[go_sem] def uq228:=@RK_unf F K fr m _ _ pc228.eq_1
@[go_sem] def uq229:=@RK_unf F K fr m _ _ pc229.eq_1
theorem t_grid_World_Epoch:tb f_grid_World_Epoch=some s_grid_World_Epoch:=rfl
@[go_sem] def uq230:=@RK_unf F K fr m _ _ pc230.eq_1
@[go_sem] def uq231:=@RK_unf F K fr m _ _ pc231.eq_1
@[go_sem] def uq232:=@RK_unf F K fr m _ _ pc232.eq_1
@[go_sem] def uq233:=@RK_unf F K fr m _ _ pc233.eq_1
@[go_sem] def uq234:=@RK_unf F K fr m _ _ pc234.eq_1
theorem t_clear_New:tb f_clear_New=some s_clear_New:=rfl
@[go_sem] def uq235:=@RK_unf F K fr m _ _ pc235.eq_1
theorem t_parts_Parts_stands:tb f_parts_Parts_stands=some s_parts_Parts_stands:=rfl
@[go_sem] def uq236:=@RK_unf F K fr m _ _ pc236.eq_1
@[go_sem] def uq237:=@RK_unf F K fr m _ _ pc237.eq_1
@[go_sem] def uq238:=@RK_unf F K fr m _ _ pc238.eq_1
@[go_sem] def uq239:=@RK_unf F K fr m _ _ pc239.eq_1
@[go_sem] def uq240:=@RK_unf F K fr m _ _ pc240.eq_1
theorem t_parts_root:tb f_parts_root=some s_parts_root:=rfl
@[go_sem] def uq241:=@RK_unf F K fr m _ _ pc241.eq_1
@[go_sem] def uq242:=@RK_unf F K fr m _ _ pc242.eq_1
@[go_sem] def uq243:=@RK_unf F K fr m _ _ pc243.eq_1
@[go_sem] def uq244:=@RK_unf F K fr m _ _ pc244.eq_1
@[go_sem] def uq245:=@RK_unf F K fr m _ _ pc245.eq_1
@[go_sem] def uq246:=@RK_unf F K fr m _ _ pc246.eq_1
@[go_sem] def uq247:=@RK_unf F K fr m _ _ pc247.eq_1
@[go_sem] def uq248:=@RK_unf F K fr m _ _ pc248.eq_1
@[go_sem] def uq249:=@RK_unf F K fr m _ _ pc249.eq_1
@[go_sem] def uq250:=@RK_unf F K fr m _ _ pc250.eq_1
@[go_sem] def uq251:=@RK_unf F K fr m _ _ pc251.eq_1
@[go_sem] def uq252:=@RK_unf F K fr m _ _ pc252.eq_1
@[go_sem] def uq253:=@RK_unf F K fr m _ _ pc253.eq_1
@[go_sem] def uq254:=@RK_unf F K fr m _ _ pc254.eq_1
@[go_sem] def uq255:=@RK_unf F K fr m _ _ pc255.eq_1
@[go_sem] def uq256:=@RK_unf F K fr m _ _ pc256.eq_1
@[go_sem] def uq257:=@RK_unf F K fr m _ _ pc257.eq_1
@[go_sem] def uq258:=@RK_unf F K fr m _ _ pc258.eq_1
@[go_sem] def uq259:=@RK_unf F K fr m _ _ pc259.eq_1
@[go_sem] def uq260:=@RK_unf F K fr m _ _ pc260.eq_1
@[go_sem] def uq261:=@RK_unf F K fr m _ _ pc261.eq_1
@[go_sem] def uq262:=@RK_unf F K fr m _ _ pc262.eq_1
@[go_sem] def uq263:=@RK_unf F K fr m _ _ pc263.eq_1
@[go_sem] def uq264:=@RK_unf F K fr m _ _ pc264.eq_1
@[go_sem] def uq265:=@RK_unf F K fr m _ _ pc265.eq_1
@[go_sem] def uq266:=@RK_unf F K fr m _ _ pc266.eq_1
@[go_sem] def uq267:=@RK_unf F K fr m _ _ pc267.eq_1
@[go_sem] def uq268:=@RK_unf F K fr m _ _ pc268.eq_1
@[go_sem] def uq269:=@RK_unf F K fr m _ _ pc269.eq_1
@[go_sem] def uq270:=@RK_unf F K fr m _ _ pc270.eq_1
@[go_sem] def uq271:=@RK_unf F K fr m _ _ pc271.eq_1
@[go_sem] def uq272:=@RK_unf F K fr m _ _ pc272.eq_1
theorem t_parts_Parts_label:tb f_parts_Parts_label=some s_parts_Parts_label:=rfl
@[go_sem] def uq273:=@RK_unf F K fr m _ _ pc273.eq_1
@[go_sem] def uq274:=@RK_unf F K fr m _ _ pc274.eq_1
@[go_sem] def uq275:=@RK_unf F K fr m _ _ pc275.eq_1
@[go_sem] def uq276:=@RK_unf F K fr m _ _ pc276.eq_1
@[go_sem] def uq277:=@RK_unf F K fr m _ _ pc277.eq_1
@[go_sem] def uq278:=@RK_unf F K fr m _ _ pc278.eq_1
theorem t_parts_New:tb f_parts_New=some s_parts_New:=rfl
@[go_sem] def uq279:=@RK_unf F K fr m _ _ pc279.eq_1
theorem t_parts_Parts_is:tb f_parts_Parts_is=some s_parts_Parts_is:=rfl
@[go_sem] def uq280:=@RK_unf F K fr m _ _ pc280.eq_1
@[go_sem] def uq281:=@RK_unf F K fr m _ _ pc281.eq_1
@[go_sem] def uq282:=@RK_unf F K fr m _ _ pc282.eq_1
theorem t_parts_Parts_At:tb f_parts_Parts_At=some s_parts_Parts_At:=rfl
@[go_sem] def uq283:=@RK_unf F K fr m _ _ pc283.eq_1
@[go_sem] def uq284:=@RK_unf F K fr m _ _ pc284.eq_1
theorem t_parts_Parts_Len:tb f_parts_Parts_Len=some s_parts_Parts_Len:=rfl
@[go_sem] def uq285:=@RK_unf F K fr m _ _ pc285.eq_1
@[go_sem] def uq286:=@RK_unf F K fr m _ _ pc286.eq_1
@[go_sem] def uq287:=@RK_unf F K fr m _ _ pc287.eq_1
theorem t_law08_awake:tb f_law08_awake=some s_law08_awake:=rfl
@[go_sem] def uq288:=@RK_unf F K fr m _ _ pc288.eq_1
@[go_sem] def uq289:=@RK_unf F K fr m _ _ pc289.eq_1
@[go_sem] def uq290:=@RK_unf F K fr m _ _ pc290.eq_1
@[go_sem] def uq291:=@RK_unf F K fr m _ _ pc291.eq_1
theorem t_parts_Parts_First:tb f_parts_Parts_First=some s_parts_Parts_First:=rfl
@[go_sem] def uq292:=@RK_unf F K fr m _ _ pc292.eq_1
@[go_sem] def uq293:=@RK_unf F K fr m _ _ pc293.eq_1
@[go_sem] def uq294:=@RK_unf F K fr m _ _ pc294.eq_1
theorem t_parts_Parts_Size:tb f_parts_Parts_Size=some s_parts_Parts_Size:=rfl
@[go_sem] def uq295:=@RK_unf F K fr m _ _ pc295.eq_1
@[go_sem] def uq296:=@RK_unf F K fr m _ _ pc296.eq_1
@[go_sem] def uq297:=@RK_unf F K fr m _ _ pc297.eq_1
@[go_sem] def uq298:=@RK_unf F K fr m _ _ pc298.eq_1
@[go_sem] def uq299:=@RK_unf F K fr m _ _ pc299.eq_1
@[go_sem] def uq300:=@RK_unf F K fr m _ _ pc300.eq_1
@[go_sem] def uq301:=@RK_unf F K fr m _ _ pc301.eq_1
@[go_sem] def uq302:=@RK_unf F K fr m _ _ pc302.eq_1
@[go_sem] def uq303:=@RK_unf F K fr m _ _ pc303.eq_1
@[go_sem] def uq304:=@RK_unf F K fr m _ _ pc304.eq_1
theorem t_ref03_Turn:tb f_ref03_Turn=some s_ref03_Turn:=rfl
@[go_sem] def uq305:=@RK_unf F K fr m _ _ pc305.eq_1
@[go_sem] def uq306:=@RK_unf F K fr m _ _ pc306.eq_1
@[go_sem] def uq307:=@RK_unf F K fr m _ _ pc307.eq_1
@[go_sem] def uq308:=@RK_unf F K fr m _ _ pc308.eq_1
@[go_sem] def uq309:=@RK_unf F K fr m _ _ pc309.eq_1
@[go_sem] def uq310:=@RK_unf F K fr m _ _ pc310.eq_1
@[go_sem] def uq311:=@RK_unf F K fr m _ _ pc311.eq_1
@[go_sem] def uq312:=@RK_unf F K fr m _ _ pc312.eq_1
theorem t_ref03_Step:tb f_ref03_Step=some s_ref03_Step:=rfl
@[go_sem] def uq313:=@RK_unf F K fr m _ _ pc313.eq_1
@[go_sem] def uq314:=@RK_unf F K fr m _ _ pc314.eq_1
@[go_sem] def uq315:=@RK_unf F K fr m _ _ pc315.eq_1
@[go_sem] def uq316:=@RK_unf F K fr m _ _ pc316.eq_1
@[go_sem] def uq317:=@RK_unf F K fr m _ _ pc317.eq_1
@[go_sem] def uq318:=@RK_unf F K fr m _ _ pc318.eq_1
@[go_sem] def uq319:=@RK_unf F K fr m _ _ pc319.eq_1
theorem t_ref03_Sides:tb f_ref03_Sides=some s_ref03_Sides:=rfl
@[go_sem] def uq320:=@RK_unf F K fr m _ _ pc320.eq_1
@[go_sem] def uq321:=@RK_unf F K fr m _ _ pc321.eq_1
theorem t_ref08_Ground_Stands:tb f_ref08_Ground_Stands=some s_ref08_Ground_Stands:=rfl
@[go_sem] def uq322:=@RK_unf F K fr m _ _ pc322.eq_1
@[go_sem] def uq323:=@RK_unf F K fr m _ _ pc323.eq_1
@[go_sem] def uq324:=@RK_unf F K fr m _ _ pc324.eq_1
@[go_sem] def uq325:=@RK_unf F K fr m _ _ pc325.eq_1
@[go_sem] def uq326:=@RK_unf F K fr m _ _ pc326.eq_1
@[go_sem] def uq327:=@RK_unf F K fr m _ _ pc327.eq_1
@[go_sem] def uq328:=@RK_unf F K fr m _ _ pc328.eq_1
@[go_sem] def uq329:=@RK_unf F K fr m _ _ pc329.eq_1
@[go_sem] def uq330:=@RK_unf F K fr m _ _ pc330.eq_1
theorem t_ref08_Ground_Steps:tb f_ref08_Ground_Steps=some s_ref08_Ground_Steps:=rfl
@[go_sem] def uq331:=@RK_unf F K fr m _ _ pc331.eq_1
@[go_sem] def uq332:=@RK_unf F K fr m _ _ pc332.eq_1
@[go_sem] def uq333:=@RK_unf F K fr m _ _ pc333.eq_1
@[go_sem] def uq334:=@RK_unf F K fr m _ _ pc334.eq_1
@[go_sem] def uq335:=@RK_unf F K fr m _ _ pc335.eq_1
@[go_sem] def uq336:=@RK_unf F K fr m _ _ pc336.eq_1
@[go_sem] def uq337:=@RK_unf F K fr m _ _ pc337.eq_1
@[go_sem] def uq338:=@RK_unf F K fr m _ _ pc338.eq_1
@[go_sem] def uq339:=@RK_unf F K fr m _ _ pc339.eq_1
@[go_sem] def uq340:=@RK_unf F K fr m _ _ pc340.eq_1
@[go_sem] def uq341:=@RK_unf F K fr m _ _ pc341.eq_1
@[go_sem] def uq342:=@RK_unf F K fr m _ _ pc342.eq_1
@[go_sem] def uq343:=@RK_unf F K fr m _ _ pc343.eq_1
@[go_sem] def uq344:=@RK_unf F K fr m _ _ pc344.eq_1
@[go_sem] def uq345:=@RK_unf F K fr m _ _ pc345.eq_1
@[go_sem] def uq346:=@RK_unf F K fr m _ _ pc346.eq_1
@[go_sem] def uq347:=@RK_unf F K fr m _ _ pc347.eq_1
@[go_sem] def uq348:=@RK_unf F K fr m _ _ pc348.eq_1
@[go_sem] def uq349:=@RK_unf F K fr m _ _ pc349.eq_1
@[go_sem] def uq350:=@RK_unf F K fr m _ _ pc350.eq_1
@[go_sem] def uq351:=@RK_unf F K fr m _ _ pc351.eq_1
@[go_sem] def uq352:=@RK_unf F K fr m _ _ pc352.eq_1
@[go_sem] def uq353:=@RK_unf F K fr m _ _ pc353.eq_1
theorem t_ref08_Ground_Labels:tb f_ref08_Ground_Labels=some s_ref08_Ground_Labels:=rfl
@[go_sem] def uq354:=@RK_unf F K fr m _ _ pc354.eq_1
@[go_sem] def uq355:=@RK_unf F K fr m _ _ pc355.eq_1
@[go_sem] def uq356:=@RK_unf F K fr m _ _ pc356.eq_1
@[go_sem] def uq357:=@RK_unf F K fr m _ _ pc357.eq_1
@[go_sem] def uq358:=@RK_unf F K fr m _ _ pc358.eq_1
@[go_sem] def uq359:=@RK_unf F K fr m _ _ pc359.eq_1
theorem t_ref04_At:tb f_ref04_At=some s_ref04_At:=rfl
@[go_sem] def uq360:=@RK_unf F K fr m _ _ pc360.eq_1
@[go_sem] def uq361:=@RK_unf F K fr m _ _ pc361.eq_1
@[go_sem] def uq362:=@RK_unf F K fr m _ _ pc362.eq_1
@[go_sem] def uq363:=@RK_unf F K fr m _ _ pc363.eq_1
theorem t_ref04_Terrain:tb f_ref04_Terrain=some s_ref04_Terrain:=rfl
@[go_sem] def uq364:=@RK_unf F K fr m _ _ pc364.eq_1
theorem t_ref06_May:tb f_ref06_May=some s_ref06_May:=rfl
@[go_sem] def uq365:=@RK_unf F K fr m _ _ pc365.eq_1
@[go_sem] def uq366:=@RK_unf F K fr m _ _ pc366.eq_1
@[go_sem] def uq367:=@RK_unf F K fr m _ _ pc367.eq_1
@[go_sem] def uq368:=@RK_unf F K fr m _ _ pc368.eq_1
@[go_sem] def uq369:=@RK_unf F K fr m _ _ pc369.eq_1
theorem t_ref06_Foot:tb f_ref06_Foot=some s_ref06_Foot:=rfl
@[go_sem] def uq370:=@RK_unf F K fr m _ _ pc370.eq_1
@[go_sem] def uq371:=@RK_unf F K fr m _ _ pc371.eq_1
@[go_sem] def uq372:=@RK_unf F K fr m _ _ pc372.eq_1
@[go_sem] def uq373:=@RK_unf F K fr m _ _ pc373.eq_1
@[go_sem] def uq374:=@RK_unf F K fr m _ _ pc374.eq_1
@[go_sem] def uq375:=@RK_unf F K fr m _ _ pc375.eq_1
theorem t_ref06_On:tb f_ref06_On=some s_ref06_On:=rfl
@[go_sem] def uq376:=@RK_unf F K fr m _ _ pc376.eq_1
@[go_sem] def uq377:=@RK_unf F K fr m _ _ pc377.eq_1
@[go_sem] def uq378:=@RK_unf F K fr m _ _ pc378.eq_1
@[go_sem] def uq379:=@RK_unf F K fr m _ _ pc379.eq_1
@[go_sem] def uq380:=@RK_unf F K fr m _ _ pc380.eq_1
@[go_sem] def uq381:=@RK_unf F K fr m _ _ pc381.eq_1
@[go_sem] def uq382:=@RK_unf F K fr m _ _ pc382.eq_1
@[go_sem] def uq383:=@RK_unf F K fr m _ _ pc383.eq_1
@[go_sem] def uq384:=@RK_unf F K fr m _ _ pc384.eq_1
@[go_sem] def uq385:=@RK_unf F K fr m _ _ pc385.eq_1
@[go_sem] def uq386:=@RK_unf F K fr m _ _ pc386.eq_1
@[go_sem] def uq387:=@RK_unf F K fr m _ _ pc387.eq_1
@[go_sem] def uq388:=@RK_unf F K fr m _ _ pc388.eq_1
@[go_sem] def uq389:=@RK_unf F K fr m _ _ pc389.eq_1
@[go_sem] def uq390:=@RK_unf F K fr m _ _ pc390.eq_1
@[go_sem] def uq391:=@RK_unf F K fr m _ _ pc391.eq_1
theorem t_ref06_Stands:tb f_ref06_Stands=some s_ref06_Stands:=rfl
@[go_sem] def uq392:=@RK_unf F K fr m _ _ pc392.eq_1
@[go_sem] def uq393:=@RK_unf F K fr m _ _ pc393.eq_1
@[go_sem] def uq394:=@RK_unf F K fr m _ _ pc394.eq_1
@[go_sem] def uq395:=@RK_unf F K fr m _ _ pc395.eq_1
@[go_sem] def uq396:=@RK_unf F K fr m _ _ pc396.eq_1
@[go_sem] def uq397:=@RK_unf F K fr m _ _ pc397.eq_1
@[go_sem] def uq398:=@RK_unf F K fr m _ _ pc398.eq_1
@[go_sem] def uq399:=@RK_unf F K fr m _ _ pc399.eq_1
@[go_sem] def uq400:=@RK_unf F K fr m _ _ pc400.eq_1
@[go_sem] def uq401:=@RK_unf F K fr m _ _ pc401.eq_1
@[go_sem] def uq402:=@RK_unf F K fr m _ _ pc402.eq_1
theorem t_ref08_Of:tb f_ref08_Of=some s_ref08_Of:=rfl
@[go_sem] def uq403:=@RK_unf F K fr m _ _ pc403.eq_1
@[go_sem] def uq404:=@RK_unf F K fr m _ _ pc404.eq_1
@[go_sem] def uq405:=@RK_unf F K fr m _ _ pc405.eq_1
@[go_sem] def uq406:=@RK_unf F K fr m _ _ pc406.eq_1
@[go_sem] def uq407:=@RK_unf F K fr m _ _ pc407.eq_1
@[go_sem] def uq408:=@RK_unf F K fr m _ _ pc408.eq_1
@[go_sem] def uq409:=@RK_unf F K fr m _ _ pc409.eq_1
@[go_sem] def uq410:=@RK_unf F K fr m _ _ pc410.eq_1
@[go_sem] def uq411:=@RK_unf F K fr m _ _ pc411.eq_1
@[go_sem] def uq412:=@RK_unf F K fr m _ _ pc412.eq_1
@[go_sem] def uq413:=@RK_unf F K fr m _ _ pc413.eq_1
@[go_sem] def uq414:=@RK_unf F K fr m _ _ pc414.eq_1
@[go_sem] def uq415:=@RK_unf F K fr m _ _ pc415.eq_1
@[go_sem] def uq416:=@RK_unf F K fr m _ _ pc416.eq_1
@[go_sem] def uq417:=@RK_unf F K fr m _ _ pc417.eq_1
@[go_sem] def uq418:=@RK_unf F K fr m _ _ pc418.eq_1
@[go_sem] def uq419:=@RK_unf F K fr m _ _ pc419.eq_1
@[go_sem] def uq420:=@RK_unf F K fr m _ _ pc420.eq_1
@[go_sem] def uq421:=@RK_unf F K fr m _ _ pc421.eq_1
@[go_sem] def uq422:=@RK_unf F K fr m _ _ pc422.eq_1
@[go_sem] def uq423:=@RK_unf F K fr m _ _ pc423.eq_1
@[go_sem] def uq424:=@RK_unf F K fr m _ _ pc424.eq_1
@[go_sem] def uq425:=@RK_unf F K fr m _ _ pc425.eq_1
theorem t_law08_right:tb f_law08_right=some s_law08_right:=rfl
@[go_sem] def uq426:=@RK_unf F K fr m _ _ pc426.eq_1
@[go_sem] def uq427:=@RK_unf F K fr m _ _ pc427.eq_1
theorem t_slices_Clone_api_Rect_api_Rect:tb f_slices_Clone_api_Rect_api_Rect=some s_slices_Clone_api_Rect_api_Rect:=rfl
@[go_sem] def uq428:=@RK_unf F K fr m _ _ pc428.eq_1
@[go_sem] def uq429:=@RK_unf F K fr m _ _ pc429.eq_1
@[go_sem] def uq430:=@RK_unf F K fr m _ _ pc430.eq_1
theorem t_grid_World_Dirty:tb f_grid_World_Dirty=some s_grid_World_Dirty:=rfl
@[go_sem] def uq431:=@RK_unf F K fr m _ _ pc431.eq_1
@[go_sem] def uq432:=@RK_unf F K fr m _ _ pc432.eq_1
@[go_sem] def uq433:=@RK_unf F K fr m _ _ pc433.eq_1
@[go_sem] def uq434:=@RK_unf F K fr m _ _ pc434.eq_1
@[go_sem] def uq435:=@RK_unf F K fr m _ _ pc435.eq_1
@[go_sem] def uq436:=@RK_unf F K fr m _ _ pc436.eq_1
@[go_sem] def uq437:=@RK_unf F K fr m _ _ pc437.eq_1
@[go_sem] def uq438:=@RK_unf F K fr m _ _ pc438.eq_1
@[go_sem] def uq439:=@RK_unf F K fr m _ _ pc439.eq_1
@[go_sem] def uq440:=@RK_unf F K fr m _ _ pc440.eq_1
@[go_sem] def uq441:=@RK_unf F K fr m _ _ pc441.eq_1
@[go_sem] def uq442:=@RK_unf F K fr m _ _ pc442.eq_1
@[go_sem] def uq443:=@RK_unf F K fr m _ _ pc443.eq_1
@[go_sem] def uq444:=@RK_unf F K fr m _ _ pc444.eq_1
@[go_sem] def uq445:=@RK_unf F K fr m _ _ pc445.eq_1
@[go_sem] def uq446:=@RK_unf F K fr m _ _ pc446.eq_1
@[go_sem] def uq447:=@RK_unf F K fr m _ _ pc447.eq_1
@[go_sem] def uq448:=@RK_unf F K fr m _ _ pc448.eq_1
@[go_sem] def uq449:=@RK_unf F K fr m _ _ pc449.eq_1
@[go_sem] def uq450:=@RK_unf F K fr m _ _ pc450.eq_1
@[go_sem] def uq451:=@RK_unf F K fr m _ _ pc451.eq_1
@[go_sem] def uq452:=@RK_unf F K fr m _ _ pc452.eq_1
@[go_sem] def uq453:=@RK_unf F K fr m _ _ pc453.eq_1
theorem t_clear_Field_Update:tb f_clear_Field_Update=some s_clear_Field_Update:=rfl
@[go_sem] def uq454:=@RK_unf F K fr m _ _ pc454.eq_1
@[go_sem] def uq455:=@RK_unf F K fr m _ _ pc455.eq_1
@[go_sem] def uq456:=@RK_unf F K fr m _ _ pc456.eq_1
@[go_sem] def uq457:=@RK_unf F K fr m _ _ pc457.eq_1
@[go_sem] def uq458:=@RK_unf F K fr m _ _ pc458.eq_1
@[go_sem] def uq459:=@RK_unf F K fr m _ _ pc459.eq_1
@[go_sem] def uq460:=@RK_unf F K fr m _ _ pc460.eq_1
theorem t_slices_Equal_int_int:tb f_slices_Equal_int_int=some s_slices_Equal_int_int:=rfl
@[go_sem] def uq461:=@RK_unf F K fr m _ _ pc461.eq_1
@[go_sem] def uq462:=@RK_unf F K fr m _ _ pc462.eq_1
@[go_sem] def uq463:=@RK_unf F K fr m _ _ pc463.eq_1
@[go_sem] def uq464:=@RK_unf F K fr m _ _ pc464.eq_1
@[go_sem] def uq465:=@RK_unf F K fr m _ _ pc465.eq_1
@[go_sem] def uq466:=@RK_unf F K fr m _ _ pc466.eq_1
@[go_sem] def uq467:=@RK_unf F K fr m _ _ pc467.eq_1
theorem t_parts_Parts_Update:tb f_parts_Parts_Update=some s_parts_Parts_Update:=rfl
@[go_sem] def uq468:=@RK_unf F K fr m _ _ pc468.eq_1
@[go_sem] def uq469:=@RK_unf F K fr m _ _ pc469.eq_1
@[go_sem] def uq470:=@RK_unf F K fr m _ _ pc470.eq_1
@[go_sem] def uq471:=@RK_unf F K fr m _ _ pc471.eq_1
@[go_sem] def uq472:=@RK_unf F K fr m _ _ pc472.eq_1
@[go_sem] def uq473:=@RK_unf F K fr m _ _ pc473.eq_1
@[go_sem] def uq474:=@RK_unf F K fr m _ _ pc474.eq_1
@[go_sem] def uq475:=@RK_unf F K fr m _ _ pc475.eq_1
@[go_sem] def uq476:=@RK_unf F K fr m _ _ pc476.eq_1
@[go_sem] def uq477:=@RK_unf F K fr m _ _ pc477.eq_1
@[go_sem] def uq478:=@RK_unf F K fr m _ _ pc478.eq_1
@[go_sem] def uq479:=@RK_unf F K fr m _ _ pc479.eq_1
@[go_sem] def uq480:=@RK_unf F K fr m _ _ pc480.eq_1
@[go_sem] def uq481:=@RK_unf F K fr m _ _ pc481.eq_1
@[go_sem] def uq482:=@RK_unf F K fr m _ _ pc482.eq_1
@[go_sem] def uq483:=@RK_unf F K fr m _ _ pc483.eq_1
@[go_sem] def uq484:=@RK_unf F K fr m _ _ pc484.eq_1
@[go_sem] def uq485:=@RK_unf F K fr m _ _ pc485.eq_1
@[go_sem] def uq486:=@RK_unf F K fr m _ _ pc486.eq_1
@[go_sem] def uq487:=@RK_unf F K fr m _ _ pc487.eq_1
@[go_sem] def uq488:=@RK_unf F K fr m _ _ pc488.eq_1
end
theorem t_law08_PartsUpdates:tb f_law08_PartsUpdates=some s_law08_PartsUpdates:=rfl
end Go.Sh.T
