import Derived.Test.YtepecbjlfekkaaaShTabPartsUpdates
import Derived.Test.YtepecbjlfekkaaaShArg
set_option linter.all false
set_option linter.unusedVariables false
set_option linter.unusedSimpArgs false
set_option autoImplicit false
namespace Go.Sh.T
open Go.Sh
set_option maxHeartbeats 8000000
set_option maxRecDepth 20000
def nearP (x:Int):Bool:=decide (-1048576 ≤ x) && decide (x ≤ 1048576)
def nearC (x y:Int):Bool:=nearP x && nearP y
def turnX (d:Int):Int:=if d=0 then 1 else if d=2 then -1 else if d=4 then 1 else if d=5 then -1 else if d=6 then -1 else if d=7 then 1 else 0
def turnY (d:Int):Int:=if d=1 then 1 else if d=3 then -1 else if d=4 then 1 else if d=5 then 1 else if d=6 then -1 else if d=7 then -1 else 0
def isDir (d:Int):Bool:=decide (0 ≤ d) && decide (d ≤ 7)
theorem r_ref03_near (m:Mem) (x:Int):RF tb f_ref03_near [.int .i64 x] m=some (.bool (nearP x),m):=by
  rw [RF_go t_ref03_near _ _ rfl]
  simp (maxDischargeDepth:=8) only [go_sem,s_ref03_near]
  ((first | rw [KG_bool] | rw [KC_bool]); split <;> rename_i h <;> (try simp only [Bool.not_eq_true,Bool.not_not,Bool.not_eq_eq_eq_not,Bool.not_true,Bool.not_false] at h) <;> simp (maxDischargeDepth:=8) only [go_sem,h]) <;> simp_all [nearP] <;> omega
theorem r_cell_near (m:Mem) (x:Int):RF tb f_cell_near [.int .i64 x] m=some (.bool (nearP x),m):=by
  rw [RF_go t_cell_near _ _ rfl]
  simp (maxDischargeDepth:=8) only [go_sem,s_cell_near]
  ((first | rw [KG_bool] | rw [KC_bool]); split <;> rename_i h <;> (try simp only [Bool.not_eq_true,Bool.not_not,Bool.not_eq_eq_eq_not,Bool.not_true,Bool.not_false] at h) <;> simp (maxDischargeDepth:=8) only [go_sem,h]) <;> simp_all [nearP] <;> omega
theorem r_ref03_Near (m:Mem) (hm:m.Wf) (x y:Int):RF tb f_ref03_Near [.agg [.int .i64 x,.int .i64 y]] m=some (.bool (nearC x y),m):=by
  rw [RF_go t_ref03_Near _ _ rfl]
  simp (maxDischargeDepth:=8) only [go_sem,s_ref03_Near,r_ref03_near]
  ((first | rw [KG_bool] | rw [KC_bool]); split <;> rename_i h <;> (try simp only [Bool.not_eq_true,Bool.not_not,Bool.not_eq_eq_eq_not,Bool.not_true,Bool.not_false] at h) <;> simp (maxDischargeDepth:=8) only [go_sem,h,r_ref03_near]) <;> simp_all [nearC]
theorem r_cell_Near (m:Mem) (hm:m.Wf) (x y:Int):RF tb f_cell_Near [.agg [.int .i64 x,.int .i64 y]] m=some (.bool (nearC x y),m):=by
  rw [RF_go t_cell_Near _ _ rfl]
  simp (maxDischargeDepth:=8) only [go_sem,s_cell_Near,r_cell_near]
  ((first | rw [KG_bool] | rw [KC_bool]); split <;> rename_i h <;> (try simp only [Bool.not_eq_true,Bool.not_not,Bool.not_eq_eq_eq_not,Bool.not_true,Bool.not_false] at h) <;> simp (maxDischargeDepth:=8) only [go_sem,h,r_cell_near]) <;> simp_all [nearC]
theorem r_ref03_Turn (m:Mem) (d:Int):RF tb f_ref03_Turn [.int .i64 d] m=some (.tup [.int .i64 (turnX d),.int .i64 (turnY d),.bool (isDir d)],m):=by
  rw [RF_go t_ref03_Turn _ _ rfl]
  simp (maxDischargeDepth:=8) only [go_sem,s_ref03_Turn]
  repeat' ((first | rw [KG_bool] | rw [KC_bool]); split <;> rename_i h <;> (try simp only [Bool.not_eq_true,Bool.not_not,Bool.not_eq_eq_eq_not,Bool.not_true,Bool.not_false] at h) <;> simp (maxDischargeDepth:=8) only [go_sem,h])
  all_goals simp_all [turnX,turnY,isDir]
  all_goals omega
def stepOk (x y d:Int):Bool:=isDir d && nearC x y && nearC (x + turnX d) (y + turnY d)
def stepX (x y d:Int):Int:=if stepOk x y d then x + turnX d else 0
def stepY (x y d:Int):Int:=if stepOk x y d then y + turnY d else 0
theorem turn_lo (d:Int):-1 ≤ turnX d ∧ turnX d ≤ 1 ∧ -1 ≤ turnY d ∧ turnY d ≤ 1:=by
  unfold turnX turnY; refine ⟨?_,?_,?_,?_⟩ <;> repeat' split <;> omega
theorem wrap_small {x:Int} (h1:-9223372036854775808 ≤ x) (h2:x ≤ 9223372036854775807):IntKind.wrap .i64 x=x:=by
  simp only [IntKind.wrap,IntKind.bits,IntKind.signed]
  simp
  omega
theorem near_in {x:Int} (h:nearP x=true):-1048576 ≤ x ∧ x ≤ 1048576:=by simpa [nearP] using h
theorem nearC_in {x y:Int} (h:nearC x y=true):(-1048576 ≤ x ∧ x ≤ 1048576) ∧ (-1048576 ≤ y ∧ y ≤ 1048576):=by
  simp only [nearC,Bool.and_eq_true] at h; exact ⟨near_in h.1,near_in h.2⟩
theorem wrapX {x y d:Int} (h:nearC x y=true):IntKind.wrap .i64 (x + turnX d)=x + turnX d:=by
  have:=nearC_in h; have:=turn_lo d; exact wrap_small (by omega) (by omega)
theorem wrapY {x y d:Int} (h:nearC x y=true):IntKind.wrap .i64 (y + turnY d)=y + turnY d:=by
  have:=nearC_in h; have:=turn_lo d; exact wrap_small (by omega) (by omega)
theorem r_ref03_Step (m:Mem) (hm:m.Wf) (x y d:Int):RF tb f_ref03_Step [.agg [.int .i64 x,.int .i64 y],.int .i64 d] m=some (.tup [.agg [.int .i64 (stepX x y d),.int .i64 (stepY x y d)],.bool (stepOk x y d)],m):=by
  rw [RF_go t_ref03_Step _ _ rfl]
  simp (maxDischargeDepth:=8) only [go_sem,s_ref03_Step,hm,r_ref03_Turn,r_ref03_Near]
  repeat' ((first | rw [KG_bool] | rw [KC_bool]); split <;> rename_i h <;> (try simp only [Bool.not_eq_true,Bool.not_not,Bool.not_eq_eq_eq_not,Bool.not_true,Bool.not_false] at h) <;> simp (maxDischargeDepth:=8) only [go_sem,h,hm,r_ref03_Turn,r_ref03_Near])
  all_goals (try simp only [Bool.not_eq_false] at *)
  all_goals simp_all [stepX,stepY,stepOk,@wrapX x y d,@wrapY x y d]
def costP (d:Int):Int:=if isDir d then if d < 4 then 10 else 14 else 0
def sideOk (x y d:Int):Bool:=stepOk x y d && decide (4 ≤ d)
theorem step_in {x y d:Int} (h:stepOk x y d=true):isDir d=true ∧ nearC x y=true ∧ nearC (x + turnX d) (y + turnY d)=true:=by
  simp only [stepOk,Bool.and_eq_true] at h; exact ⟨h.1.1,h.1.2,h.2⟩
theorem wrap0 {x y:Int} (h:nearC x y=true):IntKind.wrap .i64 (x + 0)=x ∧ IntKind.wrap .i64 (y + 0)=y ∧ IntKind.wrap .i64 x=x ∧ IntKind.wrap .i64 y=y:=by
  have:=nearC_in h
  refine ⟨?_,?_,wrap_small (by omega) (by omega),wrap_small (by omega) (by omega)⟩ <;> rw [Int.add_zero] <;> exact wrap_small (by omega) (by omega)
abbrev sideV (x y d:Int):SV:=.tup [.agg [.int .i64 (if sideOk x y d then x + turnX d else 0),.int .i64 (if sideOk x y d then y else 0)],.agg [.int .i64 (if sideOk x y d then x else 0),.int .i64 (if sideOk x y d then y + turnY d else 0)],.bool (sideOk x y d)]
theorem sideY {x y d:Int} (h1:stepOk x y d=true) (h2:decide (d < 4)=false):sideOk x y d=true:=by simp_all [sideOk]
theorem sideN {x y d:Int} (h2:decide (d < 4)=true):sideOk x y d=false:=by simp_all [sideOk]
theorem sideN' {x y d:Int} (h2:stepOk x y d=false):sideOk x y d=false:=by simp_all [sideOk]
theorem r_ref03_Sides (m:Mem) (hm:m.Wf) (x y d:Int):RF tb f_ref03_Sides [.agg [.int .i64 x,.int .i64 y],.int .i64 d] m=some (sideV x y d,m):=by
  rw [RF_go t_ref03_Sides _ _ rfl]
  simp (maxDischargeDepth:=8) only [go_sem,s_ref03_Sides,hm,r_ref03_Turn,r_ref03_Step]
  repeat' ((first | rw [KG_bool] | rw [KC_bool]); split <;> rename_i h <;> (try simp only [Bool.not_eq_true,Bool.not_not,Bool.not_eq_eq_eq_not,Bool.not_true,Bool.not_false] at h) <;> simp (maxDischargeDepth:=8) only [go_sem,h,hm,r_ref03_Turn,r_ref03_Step])
  · simp [sideV,sideN h]
  · rename_i h1
    have hin:=(step_in h1).2.1
    simp [sideV,sideY h1 h,wrapX hin,wrapY hin,wrap0 hin]
  · simp [sideV,sideN' h]
def goes (x y a b d:Int):Bool:=stepOk x y d && (decide (x + turnX d=a) && decide (y + turnY d=b))
def lastX (x w:Int):Int:=IntKind.wrap .i64 (IntKind.wrap .i64 (x + w) - 1)
abbrev rect (x y w h:Int):SV:=.agg [.int .i64 x,.int .i64 y,.int .i64 w,.int .i64 h]
theorem r_ref03_Last (m:Mem) (hm:m.Wf) (x y w h:Int):RF tb f_ref03_Last [rect x y w h] m=some (.agg [.int .i64 (lastX x w),.int .i64 (lastX y h)],m):=by
  rw [RF_go t_ref03_Last _ _ rfl]
  simp (maxDischargeDepth:=8) only [go_sem,s_ref03_Last,hm,rect]
  rfl
theorem r_cell_last (m:Mem) (hm:m.Wf) (x y w h:Int):RF tb f_cell_last [rect x y w h] m=some (.agg [.int .i64 (lastX x w),.int .i64 (lastX y h)],m):=by
  rw [RF_go t_cell_last _ _ rfl]
  simp (maxDischargeDepth:=8) only [go_sem,s_cell_last,hm,rect]
  rfl
def sideB (n:Int):Bool:=decide (1 ≤ n) && decide (n ≤ 1048576)
theorem r_cell_side (m:Mem) (n:Int):RF tb f_cell_side [.int .i64 n] m=some (.bool (sideB n),m):=by
  rw [RF_go t_cell_side _ _ rfl]
  simp (maxDischargeDepth:=8) only [go_sem,s_cell_side]
  ((first | rw [KG_bool] | rw [KC_bool]); split <;> rename_i h <;> (try simp only [Bool.not_eq_true,Bool.not_not,Bool.not_eq_eq_eq_not,Bool.not_true,Bool.not_false] at h) <;> simp (maxDischargeDepth:=8) only [go_sem,h]) <;> simp_all [sideB] <;> omega
def mayB (x y w h:Int):Bool:=nearC x y && sideB w && sideB h && nearC (lastX x w) (lastX y h)
theorem r_cell_May (m:Mem) (hm:m.Wf) (x y w h:Int):RF tb f_cell_May [rect x y w h] m=some (.bool (mayB x y w h),m):=by
  rw [RF_go t_cell_May _ _ rfl]
  simp (maxDischargeDepth:=8) only [go_sem,s_cell_May,hm,rect,r_cell_Near,r_cell_last,r_cell_side]
  repeat' ((first | rw [KG_bool] | rw [KC_bool]); split <;> rename_i h <;> (try simp only [Bool.not_eq_true,Bool.not_not,Bool.not_eq_eq_eq_not,Bool.not_true,Bool.not_false] at h) <;> simp (maxDischargeDepth:=8) only [go_sem,h,hm,r_cell_Near,r_cell_last,r_cell_side])
  all_goals simp_all [mayB]
theorem r_ref03_May (m:Mem) (hm:m.Wf) (x y w h:Int):RF tb f_ref03_May [rect x y w h] m=some (.bool (mayB x y w h),m):=by
  rw [RF_go t_ref03_May _ _ rfl]
  simp (maxDischargeDepth:=8) only [go_sem,s_ref03_May,hm,rect,r_ref03_Near,r_ref03_Last]
  repeat' ((first | rw [KG_bool] | rw [KC_bool]); split <;> rename_i h <;> (try simp only [Bool.not_eq_true,Bool.not_not,Bool.not_eq_eq_eq_not,Bool.not_true,Bool.not_false] at h) <;> simp (maxDischargeDepth:=8) only [go_sem,h,hm,r_ref03_Near,r_ref03_Last])
  all_goals simp_all [mayB,sideB]
  all_goals omega
def hasB (x y w h a b:Int):Bool:=mayB x y w h && (decide (x ≤ a) && decide (y ≤ b) && decide (a ≤ lastX x w) && decide (b ≤ lastX y h))
theorem r_cell_Has (m:Mem) (hm:m.Wf) (x y w h a b:Int):RF tb f_cell_Has [rect x y w h,.agg [.int .i64 a,.int .i64 b]] m=some (.bool (hasB x y w h a b),m):=by
  rw [RF_go t_cell_Has _ _ rfl]
  simp (maxDischargeDepth:=8) only [go_sem,s_cell_Has,hm,rect,r_cell_May,r_cell_last]
  repeat' ((first | rw [KG_bool] | rw [KC_bool]); split <;> rename_i h <;> (try simp only [Bool.not_eq_true,Bool.not_not,Bool.not_eq_eq_eq_not,Bool.not_true,Bool.not_false] at h) <;> simp (maxDischargeDepth:=8) only [go_sem,h,hm,r_cell_May,r_cell_last])
  all_goals simp_all [hasB]
  all_goals omega
theorem r_ref03_Has (m:Mem) (hm:m.Wf) (x y w h a b:Int):RF tb f_ref03_Has [rect x y w h,.agg [.int .i64 a,.int .i64 b]] m=some (.bool (hasB x y w h a b),m):=by
  rw [RF_go t_ref03_Has _ _ rfl]
  simp (maxDischargeDepth:=8) only [go_sem,s_ref03_Has,hm,rect,r_ref03_May,r_ref03_Last]
  repeat' ((first | rw [KG_bool] | rw [KC_bool]); split <;> rename_i h <;> (try simp only [Bool.not_eq_true,Bool.not_not,Bool.not_eq_eq_eq_not,Bool.not_true,Bool.not_false] at h) <;> simp (maxDischargeDepth:=8) only [go_sem,h,hm,r_ref03_May,r_ref03_Last])
  all_goals simp_all [hasB]
  all_goals omega
def withinB (x y w h a b c d:Int):Bool:=mayB x y w h && hasB a b c d x y && hasB a b c d (lastX x w) (lastX y h)
theorem r_cell_Within (m:Mem) (hm:m.Wf) (x y w h a b c d:Int):RF tb f_cell_Within [rect x y w h,rect a b c d] m=some (.bool (withinB x y w h a b c d),m):=by
  rw [RF_go t_cell_Within _ _ rfl]
  simp (maxDischargeDepth:=8) only [go_sem,s_cell_Within,hm,rect,r_cell_May,r_cell_Has,r_cell_last]
  repeat' ((first | rw [KG_bool] | rw [KC_bool]); split <;> rename_i h <;> (try simp only [Bool.not_eq_true,Bool.not_not,Bool.not_eq_eq_eq_not,Bool.not_true,Bool.not_false] at h) <;> simp (maxDischargeDepth:=8) only [go_sem,h,hm,rect,r_cell_May,r_cell_Has,r_cell_last])
  all_goals simp_all [withinB]
theorem r_ref03_Within (m:Mem) (hm:m.Wf) (x y w h a b c d:Int):RF tb f_ref03_Within [rect x y w h,rect a b c d] m=some (.bool (withinB x y w h a b c d),m):=by
  rw [RF_go t_ref03_Within _ _ rfl]
  simp (maxDischargeDepth:=8) only [go_sem,s_ref03_Within,hm,rect,r_ref03_May,r_ref03_Has,r_ref03_Last]
  repeat' ((first | rw [KG_bool] | rw [KC_bool]); split <;> rename_i h <;> (try simp only [Bool.not_eq_true,Bool.not_not,Bool.not_eq_eq_eq_not,Bool.not_true,Bool.not_false] at h) <;> simp (maxDischargeDepth:=8) only [go_sem,h,hm,rect,r_ref03_May,r_ref03_Has,r_ref03_Last])
  all_goals simp_all [withinB]
def wl (p x:Int):Int:=IntKind.wrap .i64 (IntKind.wrap .i64 (p - x) + 1)
def meetB (x y w h a b c d:Int):Bool:=mayB x y w h && mayB a b c d && (decide (mxI x a ≤ mnI (lastX x w) (lastX a c)) && decide (mxI y b ≤ mnI (lastX y h) (lastX b d)))
def iB (b:Bool) (n:Int):Int:=if b then n else 0
abbrev meetV (x y w h a b c d:Int):SV:=rect (iB (meetB x y w h a b c d) (mxI x a)) (iB (meetB x y w h a b c d) (mxI y b)) (iB (meetB x y w h a b c d) (wl (mnI (lastX x w) (lastX a c)) (mxI x a))) (iB (meetB x y w h a b c d) (wl (mnI (lastX y h) (lastX b d)) (mxI y b)))
theorem may_in {x y w hh:Int} (h:mayB x y w hh=true):(-1048576 ≤ x ∧ x ≤ 1048576) ∧ (-1048576 ≤ y ∧ y ≤ 1048576) ∧ (-1048576 ≤ lastX x w ∧ lastX x w ≤ 1048576) ∧ (-1048576 ≤ lastX y hh ∧ lastX y hh ≤ 1048576):=by
  simp only [mayB,Bool.and_eq_true] at h
  have h1:=nearC_in h.1.1.1
  have h2:=nearC_in h.2
  exact ⟨h1.1,h1.2,h2.1,h2.2⟩
theorem meet_no {x y w hh a b c d:Int} (h:meetB x y w hh a b c d=false):meetV x y w hh a b c d=rect 0 0 0 0:=by simp [meetV,h,iB]
theorem meet_yes {x y w hh a b c d:Int} (h:meetB x y w hh a b c d=true):meetV x y w hh a b c d=rect (mxI x a) (mxI y b) (wl (mnI (lastX x w) (lastX a c)) (mxI x a)) (wl (mnI (lastX y hh) (lastX b d)) (mxI y b)):=by simp [meetV,h,iB]
theorem mxI_lt {x a:Int} (h:x < a):mxI x a=a:=by simp [mxI,h]
theorem mxI_ge {x a:Int} (h:a ≤ x):mxI x a=x:=by unfold mxI; split <;> omega
theorem mnI_lt {x a:Int} (h:a < x):mnI x a=a:=by simp [mnI,h]
theorem mnI_ge {x a:Int} (h:x ≤ a):mnI x a=x:=by unfold mnI; split <;> omega
theorem r_ref03_Meet (m:Mem) (hm:m.Wf) (x y w hh a b c d:Int):RF tb f_ref03_Meet [rect x y w hh,rect a b c d] m=some (.tup [meetV x y w hh a b c d,.bool (meetB x y w hh a b c d)],m):=by
  rw [RF_go t_ref03_Meet _ _ rfl]
  simp (maxDischargeDepth:=8) only [go_sem,s_ref03_Meet,hm,rect,r_ref03_May,r_ref03_Last]
  repeat' ((first | rw [KG_bool] | rw [KC_bool]); split <;> rename_i h <;> (try simp only [Bool.not_eq_true,Bool.not_not,Bool.not_eq_eq_eq_not,Bool.not_true,Bool.not_false] at h) <;> simp (maxDischargeDepth:=8) only [go_sem,h,hm,rect,r_ref03_May,r_ref03_Last])
  all_goals (try simp only [decide_eq_true_eq,decide_eq_false_iff_not,Bool.not_eq_true,Bool.not_eq_false,gt_iff_lt,Int.not_lt] at *)
  all_goals first
    | (have e:meetB x y w hh a b c d=false:=by simp [meetB, *]
       rw [e,meet_no e]; done)
    | (have e:meetB x y w hh a b c d=false:=by
         simp only [meetB, *,mxI_lt,mxI_ge,mnI_lt,mnI_ge,Bool.true_and,Bool.and_eq_false_iff,decide_eq_false_iff_not,not_false_eq_true,true_or,or_true,not_true_eq_false,false_or,or_false,Int.not_le] <;> omega
       rw [e,meet_no e]; done)
    | (have e:meetB x y w hh a b c d=true:=by
         simp only [meetB, *,mxI_lt,mxI_ge,mnI_lt,mnI_ge,Bool.true_and,Bool.and_eq_true,decide_eq_true_eq,and_self] <;> omega
       rw [meet_yes e,e]
       simp only [*,mxI_lt,mxI_ge,mnI_lt,mnI_ge,wl])
def cellsL (x y w h:Int):List (List SV):=if mayB x y w h then (List.range (w.toNat * h.toNat)).map fun n=>[.agg [.int .i64 (x + ((n % w.toNat:Nat):Int)),.int .i64 (y + ((n / w.toNat:Nat):Int))]] else []
def boxAt (d n:Nat) (x y w h:Int) (m:Mem):Prop:=m.dep=d ∧ m.Wf ∧ m.get (.hp n 0)=some (.cells true [.int .i64 x,.int .i64 y,.int .i64 w,.int .i64 h])
theorem r_cell_Cells (m:Mem) (hm:m.Wf) (x y w h:Int):RF tb f_cell_Cells [rect x y w h] m=some (.fn f_cell_Cells_1 [] [.ptr (.hp m.hl 0) 0],m.hap [(0,.cells true [.int .i64 x,.int .i64 y,.int .i64 w,.int .i64 h])]):=by
  rw [RF_go t_cell_Cells _ _ rfl]
  simp (maxDischargeDepth:=8) only [go_sem,s_cell_Cells,hm,rect]
theorem r_cell_Cells_1 {D i d n:Nat} (hD:D < d) {x y w hh:Int} {M M':Mem} {U:Option Nat} {go:Bool} (hB:boxAt d n x y w hh M) (hR:Rounds tb (.st D i) (boxAt d n x y w hh) M.hl (cellsL x y w hh) M none M' U go) (fs:List (List SBk)) (e:Option Nat) :
    RF tb f_cell_Cells_1 [.yld (.st D i),.ptr (.hp n 0) 0] (M.frs fs e)=some (.tup [],M'.frs fs (escMin e U)):=by
  rw [RF_go t_cell_Cells_1 _ _ rfl]
  have hb:∀ {m:Mem},boxAt d n x y w hh m → ∀ off k,m.load (.hp n 0) off k=partv [.int .i64 x,.int .i64 y,.int .i64 w,.int .i64 hh] off k:=fun h off k=>by rw [load_get,h.2.2]
  simp (maxDischargeDepth:=8) only [go_sem,s_cell_Cells_1,hB.2.1,hb hB,r_cell_May]
  cases hmay:mayB x y w hh with
  | false =>
    have e0:cellsL x y w hh=[]:=by simp [cellsL,hmay]
    rw [e0] at hR
    cases hR
    simp (maxDischargeDepth:=8) only [go_sem]
  | true =>
    have e0:cellsL x y w hh=(List.range (w.toNat * hh.toNat)).map fun n=>[.agg [.int .i64 (x + ((n % w.toNat:Nat):Int)),.int .i64 (y + ((n / w.toNat:Nat):Int))]]:=by simp [cellsL,hmay]
    rw [e0] at hR
    generalize hL:((List.range (w.toNat * hh.toNat)).map fun n=>[SV.agg [.int .i64 (x + ((n % w.toNat:Nat):Int)),.int .i64 (y + ((n / w.toNat:Nat):Int))]])=L at hR
    have hm4:=may_in hmay
    have hwh:(1 ≤ w ∧ w ≤ 1048576) ∧ (1 ≤ hh ∧ hh ≤ 1048576):=by simp [mayB,sideB] at hmay; omega
    simp (maxDischargeDepth:=8) only [go_sem,hb hB]
    rw [KL_keep _ _ _ (by simp (maxDischargeDepth:=8) only [go_sem,hD,hB.1])]
    simp (maxDischargeDepth:=8) only [go_sem]
    refine KL_ind (R:=fun z=>fin [] (M.frs fs e) z=some (.tup [],M'.frs fs (escMin e U))) (α:=Nat × Mem × Option Nat) (fun a=>hh.toNat - a.1) (fun a=>[(0,.yld (.st D i)),(1,.ptr (.hp n 0) 0),(9,.int .i64 hh),(10,.int .i64 (a.1:Int))]) (fun a=>(a.2.1.frs fs e).fr [] a.2.2)
      (fun a=>a.1 ≤ hh.toNat ∧ boxAt d n x y w hh a.2.1 ∧ Noted M.hl a.2.1 a.2.2 ∧ Rounds tb (.st D i) (boxAt d n x y w hh) M.hl (L.drop (a.1 * w.toNat)) a.2.1 a.2.2 M' U go) ?_ (0,M,none) ⟨Nat.zero_le _,hB,.inl rfl,by simpa using hR⟩
    rintro ⟨yy,m,u⟩ ⟨h1,h2,h3,h4⟩ ih
    dsimp only at h1 h2 h3 h4 ⊢
    simp (maxDischargeDepth:=8) only [go_sem,hD,h2.1,h2.2.1,hb h2]
    by_cases hy:yy < hh.toNat
    · simp (maxDischargeDepth:=8) only [go_sem,show decide ((yy:Int) < hh)=true from decide_eq_true (by omega),h2.1,h2.2.1,hb h2]
      rw [KL_keep _ _ _ (by simp (maxDischargeDepth:=8) only [go_sem,hD,h2.1])]
      simp (maxDischargeDepth:=8) only [go_sem]
      refine KL_ind (R:=fun z=>fin [] (M.frs fs e) z=some (.tup [],M'.frs fs (escMin e U))) (α:=Nat × Mem × Option Nat) (fun a=>w.toNat - a.1) (fun a=>[(0,.yld (.st D i)),(1,.ptr (.hp n 0) 0),(3,.int .i64 (yy:Int)),(9,.int .i64 hh),(10,.int .i64 (yy:Int)),(14,.int .i64 w),(15,.int .i64 (a.1:Int))]) (fun a=>(a.2.1.frs fs e).fr [] a.2.2)
        (fun a=>a.1 ≤ w.toNat ∧ boxAt d n x y w hh a.2.1 ∧ Noted M.hl a.2.1 a.2.2 ∧ Rounds tb (.st D i) (boxAt d n x y w hh) M.hl (L.drop (yy * w.toNat + a.1)) a.2.1 a.2.2 M' U go) ?_ (0,m,u) ⟨Nat.zero_le _,h2,h3,by simpa using h4⟩
      clear h2 h3 h4
      rintro ⟨xx,m,u⟩ ⟨h1',h2,h3,h4⟩ ih'
      dsimp only at h1' h2 h3 h4 ⊢
      simp (maxDischargeDepth:=8) only [go_sem,hD,h2.1,h2.2.1,hb h2]
      by_cases hx:xx < w.toNat
      · simp (maxDischargeDepth:=8) only [go_sem,show decide ((xx:Int) < w)=true from decide_eq_true (by omega),h2.1,h2.2.1,hb h2]
        have hwx:IntKind.wrap .i64 (x + (xx:Int))=x + (xx:Int):=wrap_small (by omega) (by omega)
        have hwy:IntKind.wrap .i64 (y + (yy:Int))=y + (yy:Int):=wrap_small (by omega) (by omega)
        have hw1:IntKind.wrap .i64 ((xx:Int) + 1)=((xx + 1:Nat):Int):=by rw [wrap_small (by omega) (by omega)]; rfl
        have hk1:yy * w.toNat + xx < w.toNat * hh.toNat:=by
          have:(yy + 1) * w.toNat ≤ hh.toNat * w.toNat:=Nat.mul_le_mul_right _ (by omega)
          rw [Nat.add_mul] at this
          rw [Nat.mul_comm w.toNat]
          omega
        have hel:L.drop (yy * w.toNat + xx)=[.agg [.int .i64 (x + (xx:Int)),.int .i64 (y + (yy:Int))]] :: L.drop (yy * w.toNat + (xx + 1)):=by
          rw [List.drop_eq_getElem_cons (by rw [← hL]; simpa using hk1)]
          congr 1
          simp only [← hL,List.getElem_map,List.getElem_range]
          rw [Nat.mul_comm yy,Nat.mul_add_mod,Nat.mod_eq_of_lt hx,Nat.mul_add_div (by omega),Nat.div_eq_of_lt hx]
          rfl
        rw [hel] at h4
        rw [hwx,hwy]
        cases h4 with
        | stop hy hp hk=>simp (maxDischargeDepth:=8) only [go_sem,yields_fr hy,back_rounds hk]
        | next hy hp hk t =>
          simp (maxDischargeDepth:=8) only [go_sem,yields_fr hy,hw1]
          rw [KL_keep _ _ _ (by simp (maxDischargeDepth:=8) only [go_sem,hD,hp.1])]
          simp (maxDischargeDepth:=8) only [go_sem]
          exact ih' (xx + 1,_,_) ⟨by omega,hp,hk,t⟩ (by dsimp only; omega)
      · obtain rfl:xx=w.toNat:=by omega
        have hw1:IntKind.wrap .i64 ((yy:Int) + 1)=((yy + 1:Nat):Int):=by rw [wrap_small (by omega) (by omega)]; rfl
        simp (maxDischargeDepth:=8) only [go_sem,show decide (((w.toNat:Nat):Int) < w)=false from decide_eq_false (by omega),h2.1,h2.2.1,hb h2,hw1]
        rw [KL_keep _ _ _ (by simp (maxDischargeDepth:=8) only [go_sem,hD,h2.1])]
        simp (maxDischargeDepth:=8) only [go_sem]
        exact ih (yy + 1,_,_) ⟨by omega,h2,h3,by dsimp only; rw [Nat.add_mul,Nat.one_mul]; exact h4⟩ (by dsimp only; omega)
    · obtain rfl:yy=hh.toNat:=by omega
      have e1:L.drop (hh.toNat * w.toNat)=[]:=List.drop_eq_nil_of_le (by rw [← hL]; simp [Nat.mul_comm])
      rw [e1] at h4
      cases h4
      simp (maxDischargeDepth:=8) only [go_sem,show decide (((hh.toNat:Nat):Int) < hh)=false from decide_eq_false (by omega),back_rounds h3]
theorem may_sides {x y w hh:Int} (h:mayB x y w hh=true):(1 ≤ w ∧ w ≤ 1048576) ∧ (1 ≤ hh ∧ hh ≤ 1048576):=by simp [mayB,sideB] at h; omega
abbrev cellV (a b:Int):SV:=.agg [.int .i64 a,.int .i64 b]
def cellsP (x y w h:Int):List (Int × Int):=if mayB x y w h then (List.range (w.toNat * h.toNat)).map fun n=>(x + ((n % w.toNat:Nat):Int),y + ((n / w.toNat:Nat):Int)) else []
theorem cellsL_P (x y w h:Int):cellsL x y w h=(cellsP x y w h).map fun c=>[cellV c.1 c.2]:=by
  unfold cellsL cellsP
  split
  · rw [List.map_map]; rfl
  · rfl
theorem may_last {x y w h:Int} (hm:mayB x y w h=true):lastX x w=x + w - 1 ∧ lastX y h=y + h - 1:=by
  have h1:=may_in hm
  have h2:=may_sides hm
  unfold lastX
  rw [wrap_small (x:=x + w) (by omega) (by omega),wrap_small (x:=y + h) (by omega) (by omega),wrap_small (by omega) (by omega),wrap_small (by omega) (by omega)]
  exact ⟨rfl,rfl⟩
theorem has_iff {x y w h a b:Int}:hasB x y w h a b=true ↔ mayB x y w h=true ∧ x ≤ a ∧ a < x + w ∧ y ≤ b ∧ b < y + h:=by
  unfold hasB
  by_cases hm:mayB x y w h=true
  · have:=may_last hm
    simp only [hm,Bool.true_and,Bool.and_eq_true,decide_eq_true_eq,this.1,this.2,true_and]
    omega
  · simp [hm]
theorem cellsP_mem {x y w h a b:Int}:(a,b) ∈ cellsP x y w h ↔ hasB x y w h a b=true:=by
  rw [has_iff]
  unfold cellsP
  by_cases hm:mayB x y w h=true
  · have hs:=may_sides hm
    rw [if_pos hm]
    simp only [List.mem_map,List.mem_range,Prod.mk.injEq,hm,true_and]
    constructor
    · rintro ⟨n,h1,rfl,rfl⟩
      have l2:n % w.toNat < w.toNat:=Nat.mod_lt _ (by omega)
      have l3:n / w.toNat < h.toNat:=Nat.div_lt_of_lt_mul h1
      generalize n / w.toNat=q at *
      generalize n % w.toNat=r at *
      omega
    · rintro ⟨h1,h2,h3,h4⟩
      refine ⟨(b - y).toNat * w.toNat + (a - x).toNat,?_,?_,?_⟩
      · have:((b - y).toNat + 1) * w.toNat ≤ h.toNat * w.toNat:=Nat.mul_le_mul_right _ (by omega)
        rw [Nat.add_mul] at this
        rw [Nat.mul_comm w.toNat]
        omega
      · rw [Nat.mul_comm (b - y).toNat,Nat.mul_add_mod,Nat.mod_eq_of_lt (by omega)]; omega
      · rw [Nat.mul_comm (b - y).toNat,Nat.mul_add_div (by omega),Nat.div_eq_of_lt (by omega)]; omega
  · simp [hm]
theorem frs_self (M:Mem):M.frs [] M.esc=M:=by cases M; rfl
theorem cells_range {D i d n:Nat} (hD:D < d) {x y w hh:Int} {M:Mem} (hB:boxAt d n x y w hh M) (I J:Nat → Mem → Option Nat → Prop) (h0:I 0 M none)
    (step:∀ k a b m u,(cellsP x y w hh)[k]? = some (a,b) → I k m u → ∃ m' e go,Yields tb (.st D i) [cellV a b] m m' e go ∧ boxAt d n x y w hh m' ∧ Noted M.hl m' (escMin u e) ∧ (go=true → I (k + 1) m' (escMin u e)) ∧ (go=false → J k m' (escMin u e))) :
    ∃ M' U,RF tb f_cell_Cells_1 [.yld (.st D i),.ptr (.hp n 0) 0] M=some (.tup [],M'.es (escMin M.esc U)) ∧ boxAt d n x y w hh M' ∧ Noted M.hl M' U ∧ (I (cellsP x y w hh).length M' U ∨ ∃ k,k < (cellsP x y w hh).length ∧ J k M' U):=by
  obtain ⟨M',U,go,hR,h1,h2⟩:=rounds_of (F:=tb) (.st D i) (boxAt d n x y w hh) M.hl I J (cellsL x y w hh) 0 M none h0 (by
    intro k v m u hk hI
    rw [cellsL_P,List.getElem?_map] at hk
    simp only [Option.map_eq_some_iff] at hk
    obtain ⟨⟨a,b⟩,hk1,rfl⟩:=hk
    rw [Nat.zero_add] at hI ⊢
    exact step k a b m u hk1 hI)
  have hrun:=r_cell_Cells_1 hD hB hR [] M.esc
  rw [frs_self] at hrun
  have hlen:(cellsL x y w hh).length=(cellsP x y w hh).length:=by rw [cellsL_P,List.length_map]
  refine ⟨M',U,hrun,hR.last hB,hR.noted (.inl rfl),?_⟩
  cases go with
  | true=>left; have:=h1 rfl; rwa [Nat.zero_add,hlen] at this
  | false=>right; obtain ⟨k,hk,hJ⟩:=h2 rfl; rw [Nat.zero_add] at hJ; exact ⟨k,by omega,hJ⟩
theorem cells_find {D i d n:Nat} (hD:D < d) {x y w hh:Int} {M M':Mem} (hB:boxAt d n x y w hh M) (hB':boxAt d n x y w hh M') (hl:M'.hl=M.hl) (he:M'.esc=M.esc) (p:Int → Int → Bool)
    (step:∀ a b,hasB x y w hh a b=true → Yields tb (.st D i) [cellV a b] M (if p a b=true then M' else M) none (!p a b)) :
    RF tb f_cell_Cells_1 [.yld (.st D i),.ptr (.hp n 0) 0] M=some (.tup [],if (cellsP x y w hh).any (fun c=>p c.1 c.2)=true then M' else M):=by
  obtain ⟨M2,U,h1,h2,h3,h4⟩:=cells_range (i:=i) hD hB (fun k m u=>m=M ∧ u=none ∧ ∀ j c,j < k → (cellsP x y w hh)[j]? = some c → p c.1 c.2=false) (fun k m u=>m=M' ∧ u=none ∧ ∃ c,(cellsP x y w hh)[k]? = some c ∧ p c.1 c.2=true) ⟨rfl,rfl,fun j c h=>by omega⟩ (by
    rintro k a b m u hk ⟨rfl,rfl,hI⟩
    have hm:=step a b (cellsP_mem.1 (List.mem_of_getElem? hk))
    cases hp:p a b with
    | true=>exact ⟨M',none,false,by simpa [hp] using hm,hB',.inl hl,fun h=>(by cases h),fun _=>⟨rfl,rfl,(a,b),hk,hp⟩⟩
    | false =>
      refine ⟨_,none,true,by simpa [hp] using hm,hB,.inl rfl,fun _=>⟨rfl,rfl,fun j c hj hc=>?_⟩,fun h=>(by cases h)⟩
      by_cases e:j=k
      · subst e; rw [hk] at hc; cases hc; exact hp
      · exact hI j c (by omega) hc)
  rw [h1]
  rcases h4 with ⟨rfl,rfl,hI⟩ | ⟨k,hk,rfl,rfl,c,hc,hp⟩
  · rw [if_neg,escMin_none]
    · cases M2; rfl
    · intro ha
      obtain ⟨c,hc,hp⟩:=List.any_eq_true.1 ha
      obtain ⟨j,hj,rfl⟩:=List.getElem_of_mem hc
      have:=hI j _ hj (List.getElem?_eq_getElem hj)
      rw [this] at hp
      cases hp
  · rw [if_pos (List.any_eq_true.2 ⟨c,List.mem_of_getElem? hc,hp⟩),escMin_none,← he]
    cases M2; rfl
theorem cells_rangeZ {z:Option (SV × Mem)} {P:Prop} {D i d n:Nat} {M:Mem} (hz:RF tb f_cell_Cells_1 [.yld (.st D i),.ptr (.hp n 0) 0] M=z) (x y w hh:Int) (I J:Mem → Nat → Mem → Option Nat → Prop) (hD:D < d) (hB:boxAt d n x y w hh M) (h0:I M 0 M none)
    (step:∀ k a b m u,(cellsP x y w hh)[k]? = some (a,b) → I M k m u → ∃ m' e go,Yields tb (.st D i) [cellV a b] m m' e go ∧ boxAt d n x y w hh m' ∧ Noted M.hl m' (escMin u e) ∧ (go=true → I M (k + 1) m' (escMin u e)) ∧ (go=false → J M k m' (escMin u e)))
    (fin:∀ M' U,z=some (.tup [],M'.es (escMin M.esc U)) → boxAt d n x y w hh M' → Noted M.hl M' U → (I M (cellsP x y w hh).length M' U ∨ ∃ k,k < (cellsP x y w hh).length ∧ J M k M' U) → P):P:=by
  obtain ⟨M',U,h1,h2,h3,h4⟩:=cells_range hD hB (I M) (J M) h0 step
  rw [hz] at h1
  exact fin M' U h1 h2 h3 h4
theorem cells_findG {D i d n:Nat} {x y w hh:Int} {M:Mem} (G:Mem → Mem) (p:Int → Int → Bool) (hD:D < d) (hB:boxAt d n x y w hh M) (hB':boxAt d n x y w hh (G M)) (hl:(G M).hl=M.hl) (he:(G M).esc=M.esc)
    (step:∀ a b,hasB x y w hh a b=true → Yields tb (.st D i) [cellV a b] M (if p a b=true then G M else M) none (!p a b)) :
    RF tb f_cell_Cells_1 [.yld (.st D i),.ptr (.hp n 0) 0] M=some (.tup [],if (cellsP x y w hh).any (fun c=>p c.1 c.2)=true then G M else M):=cells_find hD hB hB' hl he p step
structure Well (up:List Nat) (rt dp:Nat → Nat):Prop where
  go:∀ i j,up[i]? = some j → j < up.length ∧ ((j=i ∧ rt i=i) ∨ (j ≠ i ∧ rt j=rt i ∧ dp j < dp i))
  top:∀ i,i < up.length → rt i < up.length ∧ up[rt i]? = some (rt i)
theorem well_new (n:Nat):Well (List.range n) (fun i=>i) (fun _=>0):=by
  refine ⟨fun i j h=>?_,fun i h=>?_⟩
  · have hl:i < (List.range n).length:=by
      rcases Nat.lt_or_ge i (List.range n).length with h1 | h1
      · exact h1
      · rw [List.getElem?_eq_none h1] at h; cases h
    rw [List.length_range] at hl
    rw [List.getElem?_range hl] at h
    cases h
    exact ⟨by rw [List.length_range]; exact hl,.inl ⟨rfl,rfl⟩⟩
  · rw [List.length_range] at h
    exact ⟨by rw [List.length_range]; exact h,List.getElem?_range h⟩
theorem well_rr {up:List Nat} {rt dp:Nat → Nat} (h:Well up rt dp) {i:Nat} (hi:i < up.length):rt (rt i)=rt i:=by
  have h1:=h.top i hi
  rcases (h.go _ _ h1.2).2 with ⟨_,h2⟩ | ⟨h2,_⟩
  · exact h2
  · exact absurd rfl h2
theorem well_half {up:List Nat} {rt dp:Nat → Nat} (h:Well up rt dp) {i j g:Nat} (hi:up[i]? = some j) (hj:up[j]? = some g):Well (up.set i g) rt dp:=by
  have h1:=h.go i j hi
  have h2:=h.go j g hj
  have hil:i < up.length:=by
    rcases Nat.lt_or_ge i up.length with h3 | h3
    · exact h3
    · rw [List.getElem?_eq_none h3] at hi; cases hi
  refine ⟨fun a b hab=>?_,fun a ha=>?_⟩
  · rw [List.length_set]
    rw [List.getElem?_set] at hab
    by_cases e:i=a
    · subst e
      rw [if_pos rfl,if_pos hil] at hab
      cases hab
      refine ⟨h2.1,?_⟩
      rcases h1.2 with ⟨e1,e2⟩ | ⟨e1,e2,e3⟩
      · subst e1
        rw [hi] at hj; cases hj
        exact .inl ⟨rfl,e2⟩
      · rcases h2.2 with ⟨g1,g2⟩ | ⟨g1,g2,g3⟩
        · subst g1
          exact .inr ⟨e1,e2,e3⟩
        · refine .inr ⟨fun e=>?_,g2.trans e2,by omega⟩
          subst e; omega
    · rw [if_neg e] at hab
      exact h.go a b hab
  · rw [List.length_set] at ha ⊢
    have h3:=h.top a ha
    refine ⟨h3.1,?_⟩
    rw [List.getElem?_set]
    by_cases e:i=rt a
    · rw [if_pos e,if_pos hil]
      rw [← e] at h3
      rw [hi] at h3
      have:j=i:=by have:=h3.2; exact Option.some.inj this
      subst this
      rw [hi] at hj; cases hj
      rw [e]
    · rw [if_neg e]
      exact h3.2
theorem well_join {up:List Nat} {rt dp:Nat → Nat} (h:Well up rt dp) {a b:Nat} (ha:a < up.length) (hb:b < up.length) :
    ∃ dp',Well (up.set (rt a) (rt b)) (fun x=>if rt x=rt a then rt b else rt x) dp':=by
  have ta:=h.top a ha
  have tb:=h.top b hb
  have ra:=well_rr h ha
  have rb:=well_rr h hb
  by_cases he:rt a=rt b
  · refine ⟨dp,?_⟩
    have e1:up.set (rt a) (rt b)=up:=by
      apply List.ext_getElem?
      intro n
      rw [List.getElem?_set]
      split
      · rename_i h5
        subst h5
        rw [if_pos ta.1,ta.2,he]
      · rfl
    have e2:(fun x=>if rt x=rt a then rt b else rt x)=rt:=by
      funext x
      split
      · rename_i h5; rw [h5,he]
      · rfl
    rw [e1,e2]
    exact h
  · refine ⟨fun x=>dp x + if rt x=rt a then 1 + dp (rt b) else 0,fun i j hij=>?_,fun i hi=>?_⟩
    · rw [List.length_set]
      rw [List.getElem?_set] at hij
      by_cases e:rt a=i
      · rw [if_pos e,if_pos ta.1] at hij
        cases hij
        subst e
        refine ⟨tb.1,.inr ⟨fun e=>he e.symm,?_,?_⟩⟩
        · simp only [ra,rb,if_true]
          rw [if_neg (fun e=>he e.symm)]
        · simp only [ra,rb,if_true]
          rw [if_neg (fun e=>he e.symm)]
          omega
      · rw [if_neg e] at hij
        have h1:=h.go i j hij
        refine ⟨h1.1,?_⟩
        rcases h1.2 with ⟨e1,e2⟩ | ⟨e1,e2,e3⟩
        · refine .inl ⟨e1,?_⟩
          simp only [e2]
          rw [if_neg (fun e'=>e e'.symm)]
        · refine .inr ⟨e1,by simp only [e2],?_⟩
          simp only [e2]
          omega
    · rw [List.length_set] at hi ⊢
      have h1:=h.top i hi
      by_cases e:rt i=rt a
      · simp only [e,if_true]
        refine ⟨tb.1,?_⟩
        rw [List.getElem?_set,if_neg he]
        exact tb.2
      · simp only [if_neg e]
        refine ⟨h1.1,?_⟩
        rw [List.getElem?_set,if_neg (fun e'=>e e'.symm)]
        exact h1.2
section
variable (n:Nat) (st:Nat → Bool) (R:Nat → Nat → Prop)
def Fst (i:Nat):Prop:=st i=true ∧ ∀ j,j < i → st j=true → ¬ R j i
noncomputable def cntF:Nat → Nat
  | 0=>0
  | i + 1=>open Classical in cntF i + if Fst st R i then 1 else 0
def Canon (f:Nat → Nat):Prop:=∀ i,i < n → (st i=false → f i=0) ∧ (st i=true → (∃ j,j < i ∧ st j=true ∧ R j i ∧ f i=f j) ∨ ((∀ j,j < i → st j=true → ¬ R j i) ∧ f i=cntF st R i + 1))
end
section
variable {n:Nat} {st:Nat → Bool} {R:Nat → Nat → Prop}
theorem cntF_fst {i:Nat} (h:Fst st R i):cntF st R (i + 1)=cntF st R i + 1:=by simp only [cntF]; rw [if_pos h]
theorem cntF_no {i:Nat} (h:¬ Fst st R i):cntF st R (i + 1)=cntF st R i:=by simp only [cntF]; rw [if_neg h]; rfl
theorem Canon.same {f:Nat → Nat} (hf:Canon n st R f) (hs:∀ a b,R a b → R b a) (ht:∀ a b c,R a b → R b c → R a c):∀ k i,i < k → i < n → st i=true → ∀ j,j < i → st j=true → R j i → f j=f i:=by
  intro k
  induction k with
  | zero=>intro i h; omega
  | succ k ih =>
    intro i hik hi hsi j hj hsj hR
    rcases (hf i hi).2 hsi with ⟨j',h1,h2,h3,h4⟩ | ⟨h1,_⟩
    · rw [h4]
      have hjj:R j j':=ht _ _ _ hR (hs _ _ h3)
      rcases Nat.lt_trichotomy j j' with h | h | h
      · exact ih j' (by omega) (by omega) h2 j h hsj hjj
      · rw [h]
      · exact (ih j (by omega) (by omega) hsj j' h h2 (hs _ _ hjj)).symm
    · exact absurd hR (h1 j hj hsj)
theorem Canon.uniq {f g:Nat → Nat} (hf:Canon n st R f) (hg:Canon n st R g) (hs:∀ a b,R a b → R b a) (ht:∀ a b c,R a b → R b c → R a c):∀ k i,i < k → i < n → f i=g i:=by
  intro k
  induction k with
  | zero=>intro i h; omega
  | succ k ih =>
    intro i hik hi
    cases hsi:st i with
    | false=>rw [(hf i hi).1 hsi,(hg i hi).1 hsi]
    | true =>
      rcases (hf i hi).2 hsi with ⟨j,h1,h2,h3,h4⟩ | ⟨h1,h2⟩
      · rcases (hg i hi).2 hsi with ⟨j',g1,g2,g3,g4⟩ | ⟨g1,_⟩
        · rw [h4,ih j (by omega) (by omega),g4]
          have hjj:R j j':=ht _ _ _ h3 (hs _ _ g3)
          rcases Nat.lt_trichotomy j j' with h | h | h
          · exact hg.same hs ht (j' + 1) j' (by omega) (by omega) g2 j h h2 hjj
          · rw [h]
          · exact (hg.same hs ht (j + 1) j (by omega) (by omega) h2 j' h g2 (hs _ _ hjj)).symm
        · exact absurd h3 (g1 j h1 h2)
      · rcases (hg i hi).2 hsi with ⟨j',g1,g2,g3,g4⟩ | ⟨g1,g2⟩
        · exact absurd g3 (h1 j' g1 g2)
        · rw [h2,g2]
inductive Lnk (E:Nat → Nat → Prop):Nat → Nat → Prop
  | refl (a:Nat):Lnk E a a
  | step {a b c:Nat} (h:Lnk E a b) (e:E b c ∨ E c b):Lnk E a c
theorem Lnk.trans {E:Nat → Nat → Prop} {a b c:Nat} (h:Lnk E a b) (k:Lnk E b c):Lnk E a c:=by
  induction k with
  | refl=>exact h
  | step _ e ih=>exact .step ih e
theorem Lnk.symm {E:Nat → Nat → Prop} {a b:Nat} (h:Lnk E a b):Lnk E b a:=by
  induction h with
  | refl=>exact .refl _
  | step _ e ih=>exact Lnk.trans (.step (.refl _) e.symm) ih
theorem Lnk.mono {E F:Nat → Nat → Prop} (hEF:∀ a b,E a b → Lnk F a b) {a b:Nat} (h:Lnk E a b):Lnk F a b:=by
  induction h with
  | refl=>exact .refl _
  | step _ e ih =>
    rcases e with e | e
    · exact ih.trans (hEF _ _ e)
    · exact ih.trans (hEF _ _ e).symm
theorem lnk_join {E:Nat → Nat → Prop} {rt:Nat → Nat} {m:Nat} (h:∀ x y,x < m → y < m → (rt x=rt y ↔ Lnk E x y)) {a b:Nat} (ha:a < m) (hb:b < m) (hE:∀ x y,E x y → x < m ∧ y < m) :
    ∀ x y,x < m → y < m → ((if rt x=rt a then rt b else rt x)=(if rt y=rt a then rt b else rt y) ↔ Lnk (fun p q=>E p q ∨ (p=a ∧ q=b)) x y):=by
  have up:∀ {x y},Lnk E x y → Lnk (fun p q=>E p q ∨ (p=a ∧ q=b)) x y:=fun h=>Lnk.mono (fun _ _ e=>.step (.refl _) (.inl (.inl e))) h
  have ab:Lnk (fun p q=>E p q ∨ (p=a ∧ q=b)) a b:=.step (.refl _) (.inl (.inr ⟨rfl,rfl⟩))
  intro x y hx hy
  constructor
  · intro e
    by_cases h1:rt x=rt a <;> by_cases h2:rt y=rt a
    · exact (up ((h x a hx ha).1 h1)).trans (up ((h y a hy ha).1 h2)).symm
    · rw [if_pos h1,if_neg h2] at e
      exact ((up ((h x a hx ha).1 h1)).trans ab).trans (up ((h b y hb hy).1 e))
    · rw [if_neg h1,if_pos h2] at e
      exact ((up ((h x b hx hb).1 e)).trans ab.symm).trans (up ((h y a hy ha).1 h2)).symm
    · rw [if_neg h1,if_neg h2] at e
      exact up ((h x y hx hy).1 e)
  · intro hl
    have key:∀ {u w},Lnk (fun p q=>E p q ∨ (p=a ∧ q=b)) u w → u < m → w < m ∧ (if rt u=rt a then rt b else rt u)=(if rt w=rt a then rt b else rt w):=by
      intro u w hl hu
      induction hl with
      | refl=>exact ⟨hu,rfl⟩
      | @step p q _ e ih =>
        obtain ⟨i1,i2⟩:=ih
        have one:∀ p q,(E p q ∨ (p=a ∧ q=b)) → p < m → q < m → (if rt p=rt a then rt b else rt p)=(if rt q=rt a then rt b else rt q):=by
          rintro p q (e | ⟨rfl,rfl⟩) hp hq
          · rw [(h p q hp hq).2 (.step (.refl _) (.inl e))]
          · rw [if_pos rfl]
            by_cases h1:rt q=rt p
            · rw [if_pos h1]
            · rw [if_neg h1]
        rcases e with e | e
        · have hq:q < m:=by
            rcases e with e | ⟨_,rfl⟩
            · exact (hE _ _ e).2
            · exact hb
          exact ⟨hq,i2.trans (one _ _ e i1 hq)⟩
        · have hq:q < m:=by
            rcases e with e | ⟨rfl,_⟩
            · exact (hE _ _ e).1
            · exact ha
          exact ⟨hq,i2.trans (one _ _ e hq i1).symm⟩
    exact (key hl hx).2
end
def mxP (f:Nat → Nat):Nat → Nat
  | 0=>0
  | i + 1=>if mxP f i < f i then f i else mxP f i
def fsP (f:Nat → Nat):Nat → List Nat
  | 0=>[]
  | i + 1=>if mxP f i < f i then fsP f i ++ [i] else fsP f i
def cnP (f:Nat → Nat) (m:Nat):Nat → Nat
  | 0=>0
  | i + 1=>cnP f m i + if f i=m then 1 else 0
theorem mxP_congr {f g:Nat → Nat}:∀ k,(∀ i,i < k → f i=g i) → mxP f k=mxP g k:=by
  intro k
  induction k with
  | zero=>exact fun _=>rfl
  | succ k ih=>intro h; simp only [mxP,ih (fun i hi=>h i (by omega)),h k (by omega)]
theorem fsP_congr {f g:Nat → Nat}:∀ k,(∀ i,i < k → f i=g i) → fsP f k=fsP g k:=by
  intro k
  induction k with
  | zero=>exact fun _=>rfl
  | succ k ih=>intro h; simp only [fsP,ih (fun i hi=>h i (by omega)),mxP_congr k (fun i hi=>h i (by omega)),h k (by omega)]
theorem cnP_congr {f g:Nat → Nat} (m:Nat):∀ k,(∀ i,i < k → f i=g i) → cnP f m k=cnP g m k:=by
  intro k
  induction k with
  | zero=>exact fun _=>rfl
  | succ k ih=>intro h; simp only [cnP,ih (fun i hi=>h i (by omega)),h k (by omega)]
theorem le_mxP {f:Nat → Nat}:∀ k i,i < k → f i ≤ mxP f k:=by
  intro k
  induction k with
  | zero=>intro i h; omega
  | succ k ih =>
    intro i h
    simp only [mxP]
    by_cases e:i=k
    · subst e; split <;> omega
    · have:=ih i (by omega); split <;> omega
theorem cnP_big {f:Nat → Nat} {m:Nat}:∀ k,(∀ i,i < k → f i ≠ m) → cnP f m k=0:=by
  intro k
  induction k with
  | zero=>exact fun _=>rfl
  | succ k ih=>intro h; simp only [cnP,ih (fun i hi=>h i (by omega)),if_neg (h k (by omega))]
structure Lab (n:Nat) (st:Nat → Bool) (rt:Nat → Nat) (cl:Nat → Int × Int) (k:Nat) (L:List Nat) (F:List (Int × Int)) (Z:List Nat) (num:Nat → Nat):Prop where
  len:L.length=n
  hi:∀ i,k ≤ i → L.getD i 0=0
  mx:F.length=mxP (fun i=>L.getD i 0) k
  fs:F=(fsP (fun i=>L.getD i 0) k).map cl
  zs:Z=(List.range F.length).map fun j=>cnP (fun i=>L.getD i 0) (j + 1) k
  le:∀ r,num r ≤ F.length
  nu:∀ i,i < k → st i=true → num (rt i) ≠ 0 ∧ L.getD i 0=num (rt i)
  ex:∀ r,num r ≠ 0 → ∃ i,i < k ∧ st i=true ∧ rt i=r
  ca:Canon k st (fun x y=>rt x=rt y) (fun i=>L.getD i 0)
  ct:cntF st (fun x y=>rt x=rt y) k=F.length
section
variable {n k:Nat} {st:Nat → Bool} {rt:Nat → Nat} {cl:Nat → Int × Int} {L:List Nat} {F:List (Int × Int)} {Z:List Nat} {num:Nat → Nat}
theorem lab_zero (n:Nat) (st:Nat → Bool) (rt:Nat → Nat) (cl:Nat → Int × Int):Lab n st rt cl 0 (List.replicate n 0) [] [] (fun _=>0):=by
  have h0:∀ i,(List.replicate n 0).getD i 0=0:=fun i=>by
    rw [List.getD_eq_getElem?_getD,List.getElem?_replicate]; split <;> rfl
  exact ⟨by simp,fun i _=>h0 i,rfl,rfl,rfl,fun _=>Nat.le_refl _,fun i h=>by omega,fun r h=>absurd rfl h,fun i h=>by omega,rfl⟩
theorem getD_set {L:List Nat} {k v:Nat} (h:k < L.length) (i:Nat):(L.set k v).getD i 0=if i=k then v else L.getD i 0:=by
  rw [List.getD_eq_getElem?_getD,List.getElem?_set,List.getD_eq_getElem?_getD]
  by_cases e:k=i
  · subst e; rw [if_pos rfl,if_pos h,if_pos rfl]; rfl
  · rw [if_neg e,if_neg (fun h=>e h.symm)]
theorem Lab.no (h:Lab n st rt cl k L F Z num) (hs:st k=false):Lab n st rt cl (k + 1) L F Z num:=by
  have h0:L.getD k 0=0:=h.hi k (Nat.le_refl _)
  refine ⟨h.len,fun i hi=>h.hi i (by omega),?_,?_,?_,h.le,fun i hi hsi=>?_,fun r hr=>?_,fun i hi=>?_,?_⟩
  · simp only [mxP,h0,if_neg (Nat.not_lt_zero _)]; exact h.mx
  · simp only [fsP,h0,if_neg (Nat.not_lt_zero _)]; exact h.fs
  · refine h.zs.trans (List.map_congr_left ?_)
    intro j _
    simp only [cnP,h0,if_neg (show ¬ 0=j + 1 by omega),Nat.add_zero]
  · by_cases e:i=k
    · subst e; rw [hs] at hsi; cases hsi
    · exact h.nu i (by omega) hsi
  · obtain ⟨i,h1,h2⟩:=h.ex r hr
    exact ⟨i,by omega,h2⟩
  · by_cases e:i=k
    · subst e; exact ⟨fun _=>h0,fun h=>by rw [hs] at h; cases h⟩
    · exact h.ca i (by omega)
  · rw [cntF_no (fun hf=>by have:=hf.1; rw [hs] at this; cases this)]; exact h.ct
theorem Lab.yes (h:Lab n st rt cl k L F Z num) (hk:k < n) (hs:st k=true) :
    Lab n st rt cl (k + 1) (L.set k (if num (rt k)=0 then F.length + 1 else num (rt k))) (if num (rt k)=0 then F ++ [cl k] else F)
      ((if num (rt k)=0 then Z ++ [0] else Z).set ((if num (rt k)=0 then F.length + 1 else num (rt k)) - 1) ((if num (rt k)=0 then Z ++ [0] else Z).getD ((if num (rt k)=0 then F.length + 1 else num (rt k)) - 1) 0 + 1))
      (fun r=>if num (rt k)=0 ∧ r=rt k then F.length + 1 else num r):=by
  have hkl:k < L.length:=by rw [h.len]; exact hk
  have hZ:Z.length=F.length:=by rw [h.zs,List.length_map,List.length_range]
  obtain ⟨v,hv⟩:∃ v,(if num (rt k)=0 then F.length + 1 else num (rt k))=v:=⟨_,rfl⟩
  rw [hv]
  have hlow:∀ i,i < k → (fun i=>L.getD i 0) i=(fun i=>(L.set k v).getD i 0) i:=fun i hi=>by
    dsimp only; rw [getD_set hkl,if_neg (by omega)]
  have hkv:(L.set k v).getD k 0=v:=by rw [getD_set hkl,if_pos rfl]
  have hm:=h.mx
  rw [mxP_congr k hlow] at hm
  have hcan:∀ i,i < k → (st i=false → (L.set k v).getD i 0=0) ∧ (st i=true → (∃ j,j < i ∧ st j=true ∧ rt j=rt i ∧ (L.set k v).getD i 0=(L.set k v).getD j 0) ∨ ((∀ j,j < i → st j=true → ¬ rt j=rt i) ∧ (L.set k v).getD i 0=cntF st (fun x y=>rt x=rt y) i + 1)):=fun i hi=>by
    have:=h.ca i hi
    have e:=hlow i hi
    dsimp only at e
    rw [← e]
    refine ⟨this.1,fun hs=>(this.2 hs).imp ?_ id⟩
    rintro ⟨j,j1,j2,j3,j4⟩
    have e2:=hlow j (by omega)
    dsimp only at e2
    exact ⟨j,j1,j2,j3,by rw [← e2]; exact j4⟩
  by_cases h0:num (rt k)=0
  · rw [if_pos h0] at hv
    simp only [h0,if_true,true_and]
    have hfst:Fst st (fun x y=>rt x=rt y) k:=⟨hs,fun j hj hsj hr=>by
      have:=(h.nu j hj hsj).1
      rw [hr] at this
      exact this h0⟩
    have hlt:mxP (fun i=>(L.set k v).getD i 0) k < (L.set k v).getD k 0:=by rw [hkv,← hm]; omega
    have hFl:(F ++ [cl k]).length=F.length + 1:=by simp
    refine ⟨by rw [List.length_set]; exact h.len,fun i hi=>?_,?_,?_,?_,fun r=>?_,fun i hi hsi=>?_,fun r hr=>?_,fun i hi=>?_,?_⟩
    · rw [getD_set hkl,if_neg (by omega)]; exact h.hi i (by omega)
    · simp only [mxP,if_pos hlt,hFl]
      rw [hkv]; omega
    · simp only [fsP,if_pos hlt,List.map_append,List.map_cons,List.map_nil]
      rw [← fsP_congr k hlow,← h.fs]
    · rw [hFl,List.range_succ,List.map_append]
      apply List.ext_getElem?
      intro j
      have hz:∀ j,j < F.length → Z[j]? = some (cnP (fun i=>L.getD i 0) (j + 1) k):=fun j hj=>by
        rw [h.zs,List.getElem?_map,List.getElem?_range hj]; rfl
      have hv1:v - 1=Z.length:=by omega
      rw [hv1,List.getElem?_set]
      by_cases e:Z.length=j
      · subst e
        rw [if_pos rfl,if_pos (by simp),List.getElem?_append_right (by simp; omega)]
        have hz0:(Z ++ [0]).getD Z.length 0=0:=by rw [List.getD_eq_getElem?_getD,List.getElem?_append_right (Nat.le_refl _)]; simp
        rw [hz0]
        have:cnP (fun i=>(L.set k v).getD i 0) (F.length + 1) (k + 1)=1:=by
          simp only [cnP,hkv]
          rw [if_pos (by omega),cnP_big k (fun i hi=>?_)]
          have h1:=le_mxP (f:=fun i=>(L.set k v).getD i 0) k i hi
          have h1':(L.set k v).getD i 0 ≤ mxP (fun i=>(L.set k v).getD i 0) k:=h1
          show (L.set k v).getD i 0 ≠ F.length + 1
          omega
        rw [hZ,show F.length - ((List.range F.length).map fun j=>cnP (fun i=>(L.set k v).getD i 0) (j + 1) (k + 1)).length=0 by simp]
        show some (0 + 1)=some (cnP (fun i=>(L.set k v).getD i 0) (F.length + 1) (k + 1))
        rw [this]
      · rw [if_neg e]
        by_cases e2:j < F.length
        · rw [List.getElem?_append_left (by omega),hz j e2,List.getElem?_append_left (by simp; omega),List.getElem?_map,List.getElem?_range e2]
          simp only [Option.map_some,Option.some.injEq]
          simp only [cnP,hkv]
          rw [if_neg (by omega),Nat.add_zero]
          exact cnP_congr _ k hlow
        · rw [List.getElem?_eq_none (by simp; omega),List.getElem?_eq_none (by simp; omega)]
    · rw [hFl]; split
      · omega
      · have:=h.le r; omega
    · by_cases e:i=k
      · subst e; rw [if_pos rfl,hkv]; exact ⟨by omega,hv.symm⟩
      · have hne:¬ rt i=rt k:=fun he=>hfst.2 i (by omega) hsi he
        have e2:=hlow i (by omega)
        dsimp only at e2
        rw [if_neg hne,← e2]
        exact h.nu i (by omega) hsi
    · by_cases e:r=rt k
      · exact ⟨k,by omega,hs,e.symm⟩
      · rw [if_neg e] at hr
        obtain ⟨i,h1,h2⟩:=h.ex r hr
        exact ⟨i,by omega,h2⟩
    · by_cases e:i=k
      · subst e
        refine ⟨fun h=>(by rw [hs] at h; cases h),fun _=>.inr ⟨fun j hj hsj hr=>hfst.2 j hj hsj hr,?_⟩⟩
        show (L.set i v).getD i 0=_
        rw [hkv,h.ct,hv]
      · exact hcan i (by omega)
    · rw [cntF_fst hfst,h.ct,hFl]
  · rw [if_neg h0] at hv
    simp only [h0,if_false,false_and]
    obtain ⟨i0,i1,i2,i3⟩:=h.ex (rt k) h0
    have hvl:=h.le (rt k)
    have hlt:¬ mxP (fun i=>(L.set k v).getD i 0) k < (L.set k v).getD k 0:=by rw [hkv,← hm]; omega
    refine ⟨by rw [List.length_set]; exact h.len,fun i hi=>?_,?_,?_,?_,h.le,fun i hi hsi=>?_,fun r hr=>?_,fun i hi=>?_,?_⟩
    · rw [getD_set hkl,if_neg (by omega)]; exact h.hi i (by omega)
    · simp only [mxP,if_neg hlt]; exact hm
    · simp only [fsP,if_neg hlt]
      rw [← fsP_congr k hlow]; exact h.fs
    · apply List.ext_getElem?
      intro j
      have hz:∀ j,j < F.length → Z[j]? = some (cnP (fun i=>L.getD i 0) (j + 1) k):=fun j hj=>by
        rw [h.zs,List.getElem?_map,List.getElem?_range hj]; rfl
      rw [List.getElem?_set]
      by_cases e2:j < F.length
      · rw [List.getElem?_map,List.getElem?_range e2]
        simp only [Option.map_some,cnP]
        rw [← cnP_congr (j + 1) k hlow]
        simp only [hkv]
        by_cases e:v - 1=j
        · rw [if_pos e,if_pos (by omega),if_pos (by omega),List.getD_eq_getElem?_getD,e,hz j e2]; rfl
        · rw [if_neg e,hz j e2,if_neg (by omega)]; rfl
      · rw [if_neg (by omega),List.getElem?_eq_none (by omega),List.getElem?_eq_none (by simp; omega)]
    · by_cases e:i=k
      · subst e; rw [hkv]; exact ⟨h0,hv.symm⟩
      · have e2:=hlow i (by omega)
        dsimp only at e2
        rw [← e2]; exact h.nu i (by omega) hsi
    · obtain ⟨i,h1,h2⟩:=h.ex r hr
      exact ⟨i,by omega,h2⟩
    · by_cases e:i=k
      · subst e
        refine ⟨fun h=>(by rw [hs] at h; cases h),fun _=>.inl ⟨i0,i1,i2,i3,?_⟩⟩
        have e1:=hlow i0 i1
        dsimp only at e1
        show (L.set i v).getD i 0=(L.set i v).getD i0 0
        rw [hkv,← e1,(h.nu i0 i1 i2).2,i3,hv]
      · exact hcan i (by omega)
    · rw [cntF_no (fun hf=>hf.2 i0 i1 i2 i3)]; exact h.ct
end
section
variable (N:Nat) (st:Nat → Bool) (rt:Nat → Nat) (nb:Nat → Nat → Option Nat)
structure Out (k:Nat) (L:List Nat) (n:Nat):Prop where
  len:L.length=N
  zero:∀ j,j < N → L.getD j 0 ≠ 0 → st j=true
  below:∀ j,j < k → st j=true → L.getD j 0 ≠ 0
  cl:∀ a b,a < N → b < N → rt a=rt b → L.getD a 0 ≠ 0 → st b=true → L.getD b 0=L.getD a 0
  rep:∀ j,j < N → L.getD j 0 ≠ 0 → ∃ f,f < k ∧ Fst st (fun x y=>rt x=rt y) f ∧ rt f=rt j ∧ L.getD j 0=cntF st (fun x y=>rt x=rt y) f + 1
  cnt:n=cntF st (fun x y=>rt x=rt y) k
structure Flo (L0:List Nat) (i m:Nat) (L:List Nat) (T:List Nat) (c d:Nat):Prop where
  len:L.length=N
  old:∀ j,L0.getD j 0 ≠ 0 → L.getD j 0=L0.getD j 0
  new:∀ j,L0.getD j 0=0 → L.getD j 0=0 ∨ (j < N ∧ L.getD j 0=m ∧ st j=true ∧ rt i=rt j)
  todo:∀ x ∈ T,x < N ∧ L0.getD x 0=0 ∧ L.getD x 0=m
  cur:L0.getD c 0=0 ∧ L.getD c 0=m ∧ c < N
  start:L.getD i 0=m ∧ L0.getD i 0=0
  done:∀ x,x < N → L0.getD x 0=0 → L.getD x 0=m → x ∉ T → x ≠ c → ∀ e b,e < 8 → nb x e=some b → L.getD b 0 ≠ 0
  part:∀ e b,e < d → nb c e=some b → L.getD b 0 ≠ 0
end
section
variable {N:Nat} {st:Nat → Bool} {rt:Nat → Nat} {nb:Nat → Nat → Option Nat}
structure NbOk (N:Nat) (st:Nat → Bool) (rt:Nat → Nat) (nb:Nat → Nat → Option Nat):Prop where
  to:∀ c d b,c < N → nb c d=some b → st c=true ∧ st b=true ∧ b < N ∧ rt c=rt b
  all:∀ (P:Nat → Prop) a b,a < N → b < N → rt a=rt b → P a → (∀ x d y,d < 8 → x < N → P x → nb x d=some y → P y) → st a=true → st b=true → P b
theorem out_zero (N:Nat) (st:Nat → Bool) (rt:Nat → Nat):Out N st rt 0 (List.replicate N 0) 0:=by
  have h0:∀ i,(List.replicate N 0).getD i 0=0:=fun i=>by
    rw [List.getD_eq_getElem?_getD,List.getElem?_replicate]; split <;> rfl
  exact ⟨by simp,fun j _ h=>absurd (h0 j) h,fun j h=>by omega,fun a b _ _ _ h=>absurd (h0 a) h,fun j _ h=>absurd (h0 j) h,rfl⟩
theorem Out.skip {k n:Nat} {L:List Nat} (h:Out N st rt k L n) (hk:k < N) (hs:st k=false ∨ L.getD k 0 ≠ 0):Out N st rt (k + 1) L n:=by
  have hno:¬ Fst st (fun x y=>rt x=rt y) k:=fun hf=>by
    rcases hs with hs | hs
    · have:=hf.1; rw [hs] at this; cases this
    · obtain ⟨f,h1,h2,h3,_⟩:=h.rep k hk hs
      exact hf.2 f h1 h2.1 h3
  refine ⟨h.len,h.zero,fun j hj hsj=>?_,h.cl,fun j hj hl=>?_,by rw [cntF_no hno]; exact h.cnt⟩
  · by_cases e:j=k
    · subst e
      rcases hs with hs | hs
      · rw [hs] at hsj; cases hsj
      · exact hs
    · exact h.below j (by omega) hsj
  · obtain ⟨f,h1,h2⟩:=h.rep j hj hl
    exact ⟨f,by omega,h2⟩
theorem Out.fst {k n:Nat} {L:List Nat} (h:Out N st rt k L n) (hk:k < N) (hs:st k=true) (h0:L.getD k 0=0):Fst st (fun x y=>rt x=rt y) k:=⟨hs,fun j hj hsj hr=>by
  have:=h.cl j k (by omega) hk hr (h.below j hj hsj) hs
  rw [h0] at this
  exact h.below j hj hsj this.symm⟩
theorem flo_begin {k n:Nat} {L:List Nat} (h:Out N st rt k L n) (hk:k < N) (hs:st k=true) (h0:L.getD k 0=0):Flo N st rt nb L k (n + 1) (L.set k (n + 1)) [k] k 0:=by
  have hkl:k < L.length:=by rw [h.len]; exact hk
  refine ⟨by rw [List.length_set]; exact h.len,fun j hj=>?_,fun j hj=>?_,fun x hx=>?_,⟨h0,by rw [getD_set hkl,if_pos rfl],hk⟩,⟨by rw [getD_set hkl,if_pos rfl],h0⟩,fun x hx hx0 hxm hxt=>?_,fun e b he=>by omega⟩
  · rw [getD_set hkl,if_neg (fun e=>by subst e; exact hj h0)]
  · rw [getD_set hkl]
    by_cases e:j=k
    · subst e; exact .inr ⟨hk,by rw [if_pos rfl],hs,rfl⟩
    · rw [if_neg e]; exact .inl hj
  · simp at hx; subst hx
    exact ⟨hk,h0,by rw [getD_set hkl,if_pos rfl]⟩
  · rw [getD_set hkl] at hxm
    by_cases e:x=k
    · subst e; simp at hxt
    · rw [if_neg e,hx0] at hxm; omega
theorem Flo.pop {L0 L:List Nat} {i m c d x:Nat} {T:List Nat} (h:Flo N st rt nb L0 i m L (T ++ [x]) c d) (hd:∀ e b,e < 8 → nb c e=some b → c ∉ T ++ [x] → L.getD b 0 ≠ 0):Flo N st rt nb L0 i m L T x 0:=by
  obtain ⟨x1,x2,x3⟩:=h.todo x (by simp)
  refine ⟨h.len,h.old,h.new,fun y hy=>h.todo y (by simp [hy]),⟨x2,x3,x1⟩,h.start,fun y hy hy0 hym hyt hyx e b he hb=>?_,fun e b he=>by omega⟩
  by_cases hyc:y=c
  · subst hyc
    exact hd e b he hb (by simp [hyt,hyx])
  · exact h.done y hy hy0 hym (by simp [hyt,hyx]) hyc e b he hb
theorem Flo.no {L0 L:List Nat} {i m c d:Nat} {T:List Nat} (h:Flo N st rt nb L0 i m L T c d) (hb:∀ b,nb c d=some b → L.getD b 0 ≠ 0):Flo N st rt nb L0 i m L T c (d + 1) :=
  ⟨h.len,h.old,h.new,h.todo,h.cur,h.start,h.done,fun e b he hn=>by
    by_cases e1:e=d
    · subst e1; exact hb b hn
    · exact h.part e b (by omega) hn⟩
theorem Flo.yes (hN:NbOk N st rt nb) {L0 L:List Nat} {i m c d b:Nat} {T:List Nat} (hm:m ≠ 0) (h:Flo N st rt nb L0 i m L T c d) (hb:nb c d=some b) (h0:L.getD b 0=0):Flo N st rt nb L0 i m (L.set b m) (T ++ [b]) c (d + 1):=by
  obtain ⟨n1,n2,n3,n4⟩:=hN.to c d b h.cur.2.2 hb
  have hbl:b < L.length:=by rw [h.len]; exact n3
  have hb0:L0.getD b 0=0:=by
    rcases Nat.eq_zero_or_pos (L0.getD b 0) with h1 | h1
    · exact h1
    · have:=h.old b (by omega); omega
  have hic:rt i=rt c:=by
    rcases h.new c h.cur.1 with h1 | h1
    · have:=h.cur.2.1; omega
    · exact h1.2.2.2
  have up:∀ j,L.getD j 0 ≠ 0 → (L.set b m).getD j 0=L.getD j 0:=fun j hj=>by
    rw [getD_set hbl,if_neg (fun e=>by subst e; exact hj h0)]
  refine ⟨by rw [List.length_set]; exact h.len,fun j hj=>?_,fun j hj=>?_,fun x hx=>?_,⟨h.cur.1,?_,h.cur.2.2⟩,⟨?_,h.start.2⟩,fun x hx hx0 hxm hxt hxc e b' he hn=>?_,fun e b' he hn=>?_⟩
  · rw [up j (by rw [h.old j hj]; exact hj)]; exact h.old j hj
  · rw [getD_set hbl]
    by_cases e:j=b
    · subst e; exact .inr ⟨n3,by rw [if_pos rfl],n2,hic.trans n4⟩
    · rw [if_neg e]; exact h.new j hj
  · rcases List.mem_append.1 hx with h1 | h1
    · obtain ⟨y1,y2,y3⟩:=h.todo x h1
      exact ⟨y1,y2,by rw [up x (by omega)]; exact y3⟩
    · simp at h1; subst h1
      exact ⟨n3,hb0,by rw [getD_set hbl,if_pos rfl]⟩
  · rw [up c (by have:=h.cur.2.1; omega)]; exact h.cur.2.1
  · rw [up i (by have:=h.start.1; omega)]; exact h.start.1
  · have hxb:x ≠ b:=fun e=>hxt (by simp [e])
    rw [getD_set hbl,if_neg hxb] at hxm
    have:=h.done x hx hx0 hxm (fun hc=>hxt (by simp [hc])) hxc e b' he hn
    rw [up b' this]; exact this
  · by_cases e1:e=d
    · subst e1
      rw [hb] at hn; cases hn
      rw [getD_set hbl,if_pos rfl]; exact hm
    · have:=h.part e b' (by omega) hn
      rw [up b' this]; exact this
theorem Flo.fin (hN:NbOk N st rt nb) {L0 L:List Nat} {k n c d:Nat} (ho:Out N st rt k L0 n) (hk:k < N) (hs:st k=true) (h:Flo N st rt nb L0 k (n + 1) L [] c d) (hd:∀ e b,e < 8 → nb c e=some b → L.getD b 0 ≠ 0):Out N st rt (k + 1) L (n + 1):=by
  have hf:=ho.fst hk hs h.start.2
  have hS:∀ x,x < N → L0.getD x 0=0 → L.getD x 0=n + 1 → ∀ e b,e < 8 → nb x e=some b → L0.getD b 0=0 ∧ L.getD b 0=n + 1:=fun x hx hx0 hxm e b he hn=>by
    have hb:L.getD b 0 ≠ 0:=by
      by_cases e1:x=c
      · subst e1; exact hd e b he hn
      · exact h.done x hx hx0 hxm (by simp) e1 e b he hn
    obtain ⟨n1,n2,n3,n4⟩:=hN.to x e b hx hn
    have hb0:L0.getD b 0=0:=by
      rcases Nat.eq_zero_or_pos (L0.getD b 0) with h1 | h1
      · exact h1
      · have:=ho.cl b x n3 hx n4.symm (by omega) n1
        omega
    exact ⟨hb0,by
      rcases h.new b hb0 with h1 | h1
      · exact absurd h1 hb
      · exact h1.2.1⟩
  refine ⟨h.len,fun j hj hl=>?_,fun j hj hsj=>?_,fun a b ha hb hr hl hsb=>?_,fun j hj hl=>?_,by rw [cntF_fst hf,ho.cnt]⟩
  · rcases Nat.eq_zero_or_pos (L0.getD j 0) with h1 | h1
    · rcases h.new j h1 with h2 | h2
      · exact absurd h2 hl
      · exact h2.2.2.1
    · exact ho.zero j hj (by omega)
  · by_cases e:j=k
    · subst e; rw [h.start.1]; omega
    · have:=ho.below j (by omega) hsj
      rw [h.old j this]; exact this
  · rcases Nat.eq_zero_or_pos (L0.getD a 0) with h1 | h1
    · rcases h.new a h1 with h2 | h2
      · exact absurd h2 hl
      · have:=hN.all (fun x=>L0.getD x 0=0 ∧ L.getD x 0=n + 1) a b ha hb hr ⟨h1,h2.2.1⟩ (fun x d y hd8 hx hp hn=>hS x hx hp.1 hp.2 d y hd8 hn) h2.2.2.1 hsb
        rw [this.2,h2.2.1]
    · have h2:=ho.cl a b ha hb hr (by omega) hsb
      rw [h.old a (by omega),h.old b (by omega),h2]
  · rcases Nat.eq_zero_or_pos (L0.getD j 0) with h1 | h1
    · rcases h.new j h1 with h2 | h2
      · exact absurd h2 hl
      · exact ⟨k,by omega,hf,h2.2.2.2,by rw [h2.2.1,ho.cnt]⟩
    · obtain ⟨f,f1,f2⟩:=ho.rep j hj (by omega)
      exact ⟨f,by omega,by rw [h.old j (by omega)]; exact f2⟩
theorem Out.canon {L:List Nat} {n:Nat} (h:Out N st rt N L n):Canon N st (fun x y=>rt x=rt y) (fun i=>L.getD i 0):=by
  intro i hi
  refine ⟨fun hs=>?_,fun hs=>?_⟩
  · rcases Nat.eq_zero_or_pos (L.getD i 0) with h1 | h1
    · exact h1
    · have:=h.zero i hi (by omega); rw [hs] at this; cases this
  · have hl:=h.below i hi hs
    obtain ⟨f,f1,f2,f3,f4⟩:=h.rep i hi hl
    rcases Nat.lt_trichotomy f i with e | e | e
    · refine .inl ⟨f,e,f2.1,f3,?_⟩
      exact (h.cl f i (by omega) hi f3 (h.below f (by omega) f2.1) hs)
    · subst e; exact .inr ⟨fun j hj hsj hr=>f2.2 j hj hsj hr,f4⟩
    · exact absurd f3.symm (f2.2 i e hs)
end
def natF:Fl Nat:=⟨1,fun n=>[.int .i64 (n:Int)]⟩
theorem natF_even:natF.Even:=⟨fun _=>rfl⟩
theorem _root_.Go.Sh.LiesD.iaddrN {m:Mem} {v:SV} {l:List Nat} (h:LiesD natF m v l) {i:Nat} (hi:i < l.length) (k:IntKind) (m':Mem):iaddrV 1 v (.int k (i:Int)) m'=some (.ptr (.hp (slN v) (slW v)) (slO v + i),m'):=by
  have:=LiesD.iaddr h hi k m'
  rw [show natF.sz=1 from rfl,Nat.mul_one] at this
  exact this
theorem _root_.Go.Sh.LiesD.loadN' {m:Mem} {v:SV} {l:List Nat} (h:LiesD natF m v l) {i a:Nat} (hi:l[i]? = some a) {X:Mem} (hX:HpSub m X):X.load (.hp (slN v) (slW v)) (slO v + i) none=some (.int .i64 (a:Int)):=by
  have:=LiesD.load1 natF_even (h.sub hX) hi (j:=0) (by decide)
  rw [show natF.sz=1 from rfl,Nat.mul_one,Nat.add_zero] at this
  exact this
theorem storeN {H:Hp} {v:SV} {l:List Nat} (hv:Own natF H v l) {i:Nat} (hi:i < l.length) (X:Mem) (hm:∀ i ∈ slFp v,X.hb ≤ i) (a:Nat) :
    ∃ H',(∀ f e,((X.hp H).fr f e).store (.hp (slN v) (slW v)) (slO v + i) [.int .i64 (a:Int)]=some ((X.hp H').fr f e)) ∧ Own natF H' v (l.set i a) ∧ Keep (slFp v) H H' ∧ H'.length=H.length:=by
  obtain ⟨H',h1,h2⟩:=store_own natF_even (by decide) (fun _=>rfl) (fun _=>rfl) hv hi X hm a
  refine ⟨H',fun f e=>?_,h2⟩
  have:=h1 f e
  rw [show natF.sz=1 from rfl,Nat.mul_one] at this
  exact this
structure OrdB {β:Type} (lt:β → β → Bool):Prop where
  as:∀ a b,lt a b=true → lt b a=false
  tr:∀ a b c,lt b a=false → lt c b=false → lt c a=false
section
variable {β:Type} {lt:β → β → Bool}
theorem OrdB.rf (h:OrdB lt) (a:β):lt a a=false:=by
  cases h1:lt a a with
  | false=>rfl
  | true=>rw [h.as a a h1] at h1; cases h1
def swp (L:List β) (i j:Nat):List β:=match L[i]?,L[j]? with
  | some a,some b=>(L.set i b).set j a
  | _,_=>L
theorem swp_eq {L:List β} {i j:Nat} {a b:β} (hi:L[i]? = some a) (hj:L[j]? = some b):swp L i j=(L.set i b).set j a:=by simp only [swp,hi,hj]
theorem lt_of_get {L:List β} {i:Nat} {a:β} (h:L[i]? = some a):i < L.length:=by
  rcases Nat.lt_or_ge i L.length with h1 | h1
  · exact h1
  · rw [List.getElem?_eq_none h1] at h; cases h
theorem swp_len (L:List β) (i j:Nat):(swp L i j).length=L.length:=by
  unfold swp
  split <;> simp
theorem swp_perm (L:List β) (i j:Nat):(swp L i j).Perm L:=by
  unfold swp
  split
  · rename_i a b h1 h2
    have l1:=lt_of_get h1
    have l2:=lt_of_get h2
    have e1:L[i]=a:=by rw [List.getElem?_eq_getElem l1] at h1; exact Option.some.inj h1
    have e2:L[j]=b:=by rw [List.getElem?_eq_getElem l2] at h2; exact Option.some.inj h2
    rw [← e1,← e2]
    exact List.set_set_perm l1 l2
  · exact List.Perm.refl _
theorem swp_get {L:List β} {i j:Nat} {a b:β} (hi:L[i]? = some a) (hj:L[j]? = some b) (n:Nat):(swp L i j)[n]? = if n=j then some a else if n=i then some b else L[n]? := by
  have l1:=lt_of_get hi
  have l2:=lt_of_get hj
  rw [swp_eq hi hj,List.getElem?_set,List.getElem?_set]
  by_cases h1:n=j
  · subst h1
    simp [l2]
  · by_cases h2:n=i
    · subst h2
      simp [h1,Ne.symm h1,l1]
    · simp [h1,h2,Ne.symm h1,Ne.symm h2]
def HOk (lt:β → β → Bool) (L:List β) (P:Nat → Prop):Prop:=∀ j a b,0 < j → P j → L[(j - 1) / 2]? = some a → L[j]? = some b → lt b a=false
def upH (lt:β → β → Bool):Nat → Nat → List β → List β
  | 0,_,L=>L
  | f + 1,i,L=>if i=0 then L else match L[i]?,L[(i - 1) / 2]? with
    | some a,some b=>if lt a b then upH lt f ((i - 1) / 2) (swp L i ((i - 1) / 2)) else L
    | _,_=>L
def kidH (lt:β → β → Bool) (L:List β) (i:Nat):Nat:=match L[2 * i + 1]?,L[2 * i + 1 + 1]? with
  | some a,some b=>if lt b a then 2 * i + 1 + 1 else 2 * i + 1
  | _,_=>2 * i + 1
def downH (lt:β → β → Bool):Nat → Nat → List β → List β
  | 0,_,L=>L
  | f + 1,i,L=>match L[kidH lt L i]?,L[i]? with
    | some a,some b=>if lt a b then downH lt f (kidH lt L i) (swp L i (kidH lt L i)) else L
    | _,_=>L
theorem down_perm:∀ (f i:Nat) (L:List β),(downH lt f i L).Perm L
  | 0,_,L=>List.Perm.refl _
  | f + 1,i,L=>by
    simp only [downH]
    split
    · split
      · exact (down_perm f _ _).trans (swp_perm _ _ _)
      · exact List.Perm.refl _
    · exact List.Perm.refl _
theorem kid_in (lt:β → β → Bool) (L:List β) (i:Nat):kidH lt L i=2 * i + 1 ∨ kidH lt L i=2 * i + 1 + 1:=by
  unfold kidH
  split
  · split
    · exact .inr rfl
    · exact .inl rfl
  · exact .inl rfl
theorem kid_some (lt:β → β → Bool) (L:List β) (i:Nat) (h:kidH lt L i=2 * i + 1 + 1):2 * i + 1 + 1 < L.length:=by
  unfold kidH at h
  split at h
  · rename_i x y hx hy
    exact lt_of_get hy
  · omega
theorem kid_le (hlt:OrdB lt) {L:List β} {i:Nat} {a:β} (ha:L[kidH lt L i]? = some a) {j:Nat} {b:β} (hj:0 < j) (hji:(j - 1) / 2=i) (hb:L[j]? = some b):lt b a=false:=by
  have hjj:j=2 * i + 1 ∨ j=2 * i + 1 + 1:=by omega
  unfold kidH at ha
  split at ha
  · rename_i x y hx hy
    split at ha
    · rename_i hxy
      rw [hy] at ha; cases ha
      rcases hjj with rfl | rfl
      · rw [hx] at hb; cases hb
        exact hlt.as _ _ hxy
      · rw [hy] at hb; cases hb
        exact hlt.rf _
    · rename_i hxy
      rw [hx] at ha; cases ha
      rcases hjj with rfl | rfl
      · rw [hx] at hb; cases hb
        exact hlt.rf _
      · rw [hy] at hb; cases hb
        simpa using hxy
  · rename_i hno
    rcases hjj with rfl | rfl
    · rw [ha] at hb; cases hb
      exact hlt.rf _
    · exact absurd hb (by intro h; exact hno a b ha h)
theorem down_ok (hlt:OrdB lt):∀ (f i:Nat) (L:List β),L.length ≤ i + f → i < L.length → HOk lt L (fun j=>(j - 1) / 2 ≠ i) → (∀ j a b,0 < j → (j - 1) / 2=i → 0 < i → L[(i - 1) / 2]? = some a → L[j]? = some b → lt b a=false) → HOk lt (downH lt f i L) (fun _=>True)
  | 0,i,L,hf,hi,_,_=>by omega
  | f + 1, i, L, hf,hi,hA,hB=>by
    simp only [downH]
    have hk:=kid_in lt L i
    have hks:=kid_some lt L i
    have hkl:=fun a (ha:L[kidH lt L i]? = some a)=>fun j b=>@kid_le β lt hlt L i a ha j b
    generalize kidH lt L i=k at hk hks hkl ⊢
    obtain ⟨b,hb⟩:∃ b,L[i]? = some b:=⟨_,List.getElem?_eq_getElem hi⟩
    rw [hb]
    cases ha:L[k]? with
    | none =>
      dsimp only
      intro j x y hj _ h1 h2
      by_cases hji:(j - 1) / 2=i
      · exfalso
        have l1:=lt_of_get h2
        rcases Nat.lt_or_ge k L.length with h | h
        · rw [List.getElem?_eq_getElem h] at ha; cases ha
        · by_cases h5:k=2 * i + 1 + 1
          · have:=hks h5; omega
          · omega
      · exact hA j x y hj hji h1 h2
    | some a =>
      dsimp only
      have hkl:=hkl a ha
      by_cases hab:lt a b=true
      · rw [if_pos hab]
        have hg:=swp_get hb ha
        have hkn:=lt_of_get ha
        refine down_ok hlt f k (swp L i k) (by rw [swp_len]; omega) (by rw [swp_len]; exact hkn) ?_ ?_
        · intro j x y hj hjp h1 h2
          rw [hg] at h1 h2
          rw [if_neg hjp] at h1
          by_cases hjk:j=k
          · rw [if_pos hjk] at h2
            rw [if_pos (by omega)] at h1
            cases h1; cases h2
            exact hlt.as _ _ hab
          · rw [if_neg hjk] at h2
            by_cases hji:j=i
            · rw [if_pos hji] at h2
              cases h2
              subst hji
              rw [if_neg (by omega)] at h1
              exact hB k x a (by omega) (by omega) hj h1 ha
            · rw [if_neg hji] at h2
              by_cases hpi:(j - 1) / 2=i
              · rw [if_pos hpi] at h1
                cases h1
                exact hkl j y hj hpi h2
              · rw [if_neg hpi] at h1
                exact hA j x y hj hpi h1 h2
        · intro j x y hj hjp hpos h1 h2
          rw [hg] at h1 h2
          rw [if_neg (by omega),if_pos (by omega)] at h1
          cases h1
          rw [if_neg (by omega),if_neg (by omega)] at h2
          exact hA j a y hj (by omega) (by rw [hjp]; exact ha) h2
      · rw [if_neg hab]
        intro j x y hj _ h1 h2
        by_cases hji:(j - 1) / 2=i
        · rw [hji,hb] at h1
          cases h1
          exact hlt.tr _ _ _ (by simpa using hab) (hkl j y hj hji h2)
        · exact hA j x y hj hji h1 h2
theorem root_min (hlt:OrdB lt) {L:List β} (h:HOk lt L (fun _=>True)) {a:β} (ha:L[0]? = some a):∀ (n j:Nat) (b:β),j ≤ n → L[j]? = some b → lt b a=false
  | n,0,b,_,hb=>by rw [ha] at hb; cases hb; exact hlt.rf _
  | 0,j + 1,b,hj,_=>absurd hj (by omega)
  | n + 1,j + 1,b,hj,hb=>by
    have l1:=lt_of_get hb
    obtain ⟨c,hc⟩:∃ c,L[(j + 1 - 1) / 2]? = some c:=⟨_,List.getElem?_eq_getElem (by omega)⟩
    exact hlt.tr _ _ _ (root_min hlt h ha n ((j + 1 - 1) / 2) c (by omega) hc) (h (j + 1) c b (by omega) trivial hc hb)
end
abbrev It:=Int × Int × Int
def aheadI (a b:Int):Bool:=decide (a / 4 < b / 4)
def hlt (a b:It):Bool:=aheadI a.1 b.1 || (!aheadI b.1 a.1 && decide (a.2.2 < b.2.2))
theorem hlt_ord:OrdB hlt:=by
  constructor
  · intro a b h
    simp only [hlt,aheadI,Bool.or_eq_true,Bool.and_eq_true,Bool.not_eq_true',decide_eq_true_eq,decide_eq_false_iff_not,Bool.or_eq_false_iff,Bool.and_eq_false_iff,Bool.not_eq_false'] at h ⊢
    omega
  · intro a b c h1 h2
    simp only [hlt,aheadI,Bool.or_eq_true,Bool.and_eq_true,Bool.not_eq_true',decide_eq_true_eq,decide_eq_false_iff_not,Bool.or_eq_false_iff,Bool.and_eq_false_iff,Bool.not_eq_false'] at h1 h2 ⊢
    omega
def popL (L:List It):List It:=match L[L.length - 1]? with
  | some x=>downH hlt L.length 0 ((L.set 0 x).take (L.length - 1))
  | none=>[]
theorem u1:upH hlt 1 0 [((9:Int),(0:Int),(0:Int))]=[(9,0,0)]:=by decide +kernel
theorem u2:upH hlt 2 1 [((9:Int),(0:Int),(0:Int)),(1,0,1)]=[(1,0,1),(9,0,0)]:=by decide +kernel
theorem u3:popL [((1:Int),(0:Int),(1:Int)),(9,0,0)]=[(9,0,0)]:=by decide +kernel
theorem pop_perm (a0:It) (T:List It):(popL (a0 :: T)).Perm T ∧ (HOk hlt (a0 :: T) (fun _=>True) → HOk hlt (popL (a0 :: T)) (fun _=>True)):=by
  rcases List.eq_nil_or_concat T with rfl | ⟨T',x,rfl⟩
  · exact ⟨List.Perm.refl _,fun _=>fun j a b _ _ h=>by simp [popL,downH,kidH] at h⟩
  · have e:popL (a0 :: (T' ++ [x]))=downH hlt (T'.length + 1 + 1) 0 (x :: T'):=by
      have e1:(a0 :: (T' ++ [x])).length - 1=T'.length + 1:=by simp
      have e2:(a0 :: (T' ++ [x]))[T'.length + 1]? = some x:=by simp
      have e3:((a0 :: (T' ++ [x])).set 0 x).take (T'.length + 1)=x :: T':=by simp
      have e4:(a0 :: (T' ++ [x])).length=T'.length + 1 + 1:=by simp
      rw [popL,e1,e2]
      dsimp only
      rw [e3,e4]
    rw [List.concat_eq_append] at *
    rw [e]
    refine ⟨(down_perm _ _ _).trans ?_,fun h=>?_⟩
    · exact (List.perm_append_comm (l₁:=[x]) (l₂:=T'))
    · refine down_ok hlt_ord _ 0 _ (by simp) (by simp) ?_ (fun j a b _ _ h=>absurd h (Nat.lt_irrefl 0))
      intro j a b hj hp h1 h2
      have hp0:(j - 1) / 2 ≠ 0:=hp
      have l2:=lt_of_get h2
      simp only [List.length_cons] at l2
      have h1':(a0 :: (T' ++ [x]))[(j - 1) / 2]? = some a:=by
        obtain ⟨q,hq⟩:∃ q,(j - 1) / 2=q + 1:=⟨(j - 1) / 2 - 1,by omega⟩
        rw [hq,List.getElem?_cons_succ] at h1 ⊢
        rw [List.getElem?_append_left (by omega)]
        exact h1
      have h2':(a0 :: (T' ++ [x]))[j]? = some b:=by
        obtain ⟨q,hq⟩:∃ q,j=q + 1:=⟨j - 1,by omega⟩
        rw [hq,List.getElem?_cons_succ] at h2 ⊢
        rw [List.getElem?_append_left (by omega)]
        exact h2
      exact h j a b hj trivial h1' h2'
abbrev Rt:=Int × Int × Int × Int × Int
def sumW (a b:Int):Int:=IntKind.wrap .i64 (a + b)
def aheadR (c r c' r':Int):Bool:=if sumW c r=sumW c' r' then decide (r < r') else decide (sumW c r < sumW c' r')
def rlt (a b:Rt):Bool:=aheadR a.2.2.1 a.2.2.2.1 b.2.2.1 b.2.2.2.1 || (!aheadR b.2.2.1 b.2.2.2.1 a.2.2.1 a.2.2.2.1 && decide (a.2.2.2.2 < b.2.2.2.2))
theorem aheadR_iff (c r c' r':Int):aheadR c r c' r'=true ↔ sumW c r < sumW c' r' ∨ (sumW c r=sumW c' r' ∧ r < r'):=by
  unfold aheadR
  by_cases e:sumW c r=sumW c' r'
  · rw [if_pos e,decide_eq_true_eq]; omega
  · rw [if_neg e,decide_eq_true_eq]; omega
theorem aheadR_no (c r c' r':Int):aheadR c r c' r'=false ↔ ¬ (sumW c r < sumW c' r' ∨ (sumW c r=sumW c' r' ∧ r < r')):=by
  rw [← aheadR_iff,Bool.not_eq_true]
theorem rlt_iff (a b:Rt):rlt a b=true ↔ sumW a.2.2.1 a.2.2.2.1 < sumW b.2.2.1 b.2.2.2.1 ∨ (sumW a.2.2.1 a.2.2.2.1=sumW b.2.2.1 b.2.2.2.1 ∧ (a.2.2.2.1 < b.2.2.2.1 ∨ (a.2.2.2.1=b.2.2.2.1 ∧ a.2.2.2.2 < b.2.2.2.2))):=by
  unfold rlt
  rw [Bool.or_eq_true,Bool.and_eq_true,Bool.not_eq_true',decide_eq_true_eq,aheadR_iff,aheadR_no]
  omega
theorem rlt_no (a b:Rt):rlt a b=false ↔ ¬ (sumW a.2.2.1 a.2.2.2.1 < sumW b.2.2.1 b.2.2.2.1 ∨ (sumW a.2.2.1 a.2.2.2.1=sumW b.2.2.1 b.2.2.2.1 ∧ (a.2.2.2.1 < b.2.2.2.1 ∨ (a.2.2.2.1=b.2.2.2.1 ∧ a.2.2.2.2 < b.2.2.2.2)))):=by
  rw [← rlt_iff,Bool.not_eq_true]
theorem rlt_ord:OrdB rlt:=by
  constructor
  · intro a b h
    rw [rlt_iff] at h
    rw [rlt_no]
    omega
  · intro a b c h1 h2
    rw [rlt_no] at h1 h2 ⊢
    omega
def rpopL (L:List Rt):List Rt:=match L[L.length - 1]? with
  | some x=>downH rlt L.length 0 ((L.set 0 x).take (L.length - 1))
  | none=>[]
theorem rpop_perm (a0:Rt) (T:List Rt):(rpopL (a0 :: T)).Perm T ∧ (HOk rlt (a0 :: T) (fun _=>True) → HOk rlt (rpopL (a0 :: T)) (fun _=>True)):=by
  rcases List.eq_nil_or_concat T with rfl | ⟨T',x,rfl⟩
  · exact ⟨List.Perm.refl _,fun _=>fun j a b _ _ h=>by simp [rpopL,downH,kidH] at h⟩
  · have e:rpopL (a0 :: (T' ++ [x]))=downH rlt (T'.length + 1 + 1) 0 (x :: T'):=by
      have e1:(a0 :: (T' ++ [x])).length - 1=T'.length + 1:=by simp
      have e2:(a0 :: (T' ++ [x]))[T'.length + 1]? = some x:=by simp
      have e3:((a0 :: (T' ++ [x])).set 0 x).take (T'.length + 1)=x :: T':=by simp
      have e4:(a0 :: (T' ++ [x])).length=T'.length + 1 + 1:=by simp
      rw [rpopL,e1,e2]
      dsimp only
      rw [e3,e4]
    rw [List.concat_eq_append] at *
    rw [e]
    refine ⟨(down_perm _ _ _).trans ?_,fun h=>?_⟩
    · exact (List.perm_append_comm (l₁:=[x]) (l₂:=T'))
    · refine down_ok rlt_ord _ 0 _ (by simp) (by simp) ?_ (fun j a b _ _ h=>absurd h (Nat.lt_irrefl 0))
      intro j a b hj hp h1 h2
      have hp0:(j - 1) / 2 ≠ 0:=hp
      have l2:=lt_of_get h2
      simp only [List.length_cons] at l2
      have h1':(a0 :: (T' ++ [x]))[(j - 1) / 2]? = some a:=by
        obtain ⟨q,hq⟩:∃ q,(j - 1) / 2=q + 1:=⟨(j - 1) / 2 - 1,by omega⟩
        rw [hq,List.getElem?_cons_succ] at h1 ⊢
        rw [List.getElem?_append_left (by omega)]
        exact h1
      have h2':(a0 :: (T' ++ [x]))[j]? = some b:=by
        obtain ⟨q,hq⟩:∃ q,j=q + 1:=⟨j - 1,by omega⟩
        rw [hq,List.getElem?_cons_succ] at h2 ⊢
        rw [List.getElem?_append_left (by omega)]
        exact h2
      exact h j a b hj trivial h1' h2'
abbrev Rc:=Int × Int × Int × Int
abbrev Bld:=Int × Rc
abbrev rectR (r:Rc):SV:=rect r.1 r.2.1 r.2.2.1 r.2.2.2
abbrev bldV (b:Bld):SV:=.agg [.int .i64 b.1,.int .i64 b.2.1,.int .i64 b.2.2.1,.int .i64 b.2.2.2.1,.int .i64 b.2.2.2.2]
def rectF:Fl Rc:=Fl.pair (Fl.int .i64) (Fl.pair (Fl.int .i64) (Fl.pair (Fl.int .i64) (Fl.int .i64)))
def bldF:Fl Bld:=Fl.pair (Fl.int .i64) rectF
theorem rectF_even:rectF.Even:=⟨fun _=>rfl⟩
theorem bldF_even:bldF.Even:=⟨fun _=>rfl⟩
theorem rectF_ok (l:List Rc):SV.cellsOk 0 0 (l.flatMap rectF.enc)=true:=cellsOk_flat (fun _=>rfl) l
theorem bldF_ok (l:List Bld):SV.cellsOk 0 0 (l.flatMap bldF.enc)=true:=cellsOk_flat (fun _=>rfl) l
abbrev byteF:Fl Int:=Fl.int .u8
theorem byteF_even:byteF.Even:=⟨fun _=>rfl⟩
theorem byteF_ok (l:List Int):SV.cellsOk 0 0 (l.flatMap byteF.enc)=true:=cellsOk_flat (fun _=>rfl) l
def hasR (r:Rc) (a b:Int):Bool:=hasB r.1 r.2.1 r.2.2.1 r.2.2.2 a b
section
variable {α β:Type} [DecidableEq α]
def alGet (k:α):List (α × β) → Option β
  | []=>none
  | (a,v) :: r=>if k=a then some v else alGet k r
def alSet (k:α) (x:β):List (α × β) → List (α × β)
  | []=>[(k,x)]
  | (a,v) :: r=>if k=a then (k,x) :: r else (a,v) :: alSet k x r
def alDel (k:α):List (α × β) → List (α × β)
  | []=>[]
  | (a,v) :: r=>if k=a then r else (a,v) :: alDel k r
def alV (f:α → SV) (g:β → SV) (l:List (α × β)):List (SV × SV):=l.map fun x=>(f x.1,g x.2)
variable {f:α → SV} {g:β → SV} (hf:∀ a b,seq (f a) (f b)=some (decide (a=b)))
include hf
theorem assoc_al (k:α) (l:List (α × β)):assoc (f k) (alV f g l)=some ((alGet k l).map g):=by
  induction l with
  | nil=>rfl
  | cons x r ih =>
    obtain ⟨a,v⟩:=x
    simp only [alV,List.map_cons,assoc,hf,alGet]
    by_cases e:k=a
    · simp [e]
    · simp only [e,decide_false,if_false]; exact ih
theorem set_al (k:α) (x:β) (l:List (α × β)):assocSet (f k) (g x) (alV f g l)=alV f g (alSet k x l):=by
  induction l with
  | nil=>rfl
  | cons y r ih =>
    obtain ⟨a,v⟩:=y
    simp only [alV,List.map_cons,assocSet,hf,alSet]
    by_cases e:k=a
    · simp [e]
    · simp only [e,decide_false,if_false,List.map_cons,List.cons.injEq,true_and]; exact ih
theorem del_al (k:α) (l:List (α × β)):assocDel (f k) (alV f g l)=alV f g (alDel k l):=by
  induction l with
  | nil=>rfl
  | cons y r ih =>
    obtain ⟨a,v⟩:=y
    simp only [alV,List.map_cons,assocDel,hf,alDel]
    by_cases e:k=a
    · simp [e]
    · simp only [e,decide_false,if_false,List.map_cons,List.cons.injEq,true_and]; exact ih
end
theorem alGet_set {α β:Type} [DecidableEq α] (k j:α) (x:β) (l:List (α × β)):alGet j (alSet k x l)=if j=k then some x else alGet j l:=by
  induction l with
  | nil=>simp [alSet,alGet]
  | cons y r ih =>
    obtain ⟨a,v⟩:=y
    unfold alSet
    by_cases e:k=a
    · subst e
      simp only [if_true,alGet]
      split <;> rfl
    · simp only [if_neg e,alGet,ih]
      by_cases h1:j=k
      · subst h1; simp [e]
      · simp only [if_neg h1]
theorem alDel_get {α β:Type} [DecidableEq α] (k j:α) (l:List (α × β)) (h:(l.map Prod.fst).Nodup):alGet j (alDel k l)=if j=k then none else alGet j l:=by
  induction l with
  | nil=>simp [alDel,alGet]
  | cons y r ih =>
    obtain ⟨a,v⟩:=y
    simp only [List.map_cons,List.nodup_cons] at h
    simp only [alDel]
    by_cases e:k=a
    · subst e
      rw [if_pos rfl]
      by_cases h1:j=k
      · subst h1
        rw [if_pos rfl]
        have hno:∀ (r:List (α × β)),j ∉ r.map Prod.fst → alGet j r=none:=by
          intro r
          induction r with
          | nil=>intro _; rfl
          | cons z r ih2 =>
            intro hz
            simp only [List.map_cons,List.mem_cons,not_or] at hz
            simp only [alGet,if_neg hz.1]; exact ih2 hz.2
        exact hno r h.1
      · simp only [if_neg h1,alGet]
    · rw [if_neg e]
      simp only [alGet,ih h.2]
      by_cases h1:j=k
      · subst h1; rw [if_neg e]; simp
      · simp only [if_neg h1]
theorem alDel_keys {α β:Type} [DecidableEq α] (k:α) (l:List (α × β)) (h:(l.map Prod.fst).Nodup):((alDel k l).map Prod.fst).Nodup:=by
  have sub:∀ l:List (α × β),(alDel k l).Sublist l:=by
    intro l
    induction l with
    | nil=>exact .slnil
    | cons y r ih =>
      obtain ⟨a,v⟩:=y
      simp only [alDel]
      split
      · exact .cons _ (List.Sublist.refl _)
      · exact .cons_cons _ ih
  exact h.sublist ((sub l).map _)
theorem alSet_keys {α β:Type} [DecidableEq α] (k:α) (x:β) (l:List (α × β)) (h:(l.map Prod.fst).Nodup):((alSet k x l).map Prod.fst).Nodup:=by
  have mem:∀ l:List (α × β),∀ j ∈ (alSet k x l).map Prod.fst,j=k ∨ j ∈ l.map Prod.fst:=by
    intro l
    induction l with
    | nil=>intro j hj; simp [alSet] at hj; exact .inl hj
    | cons y r ih =>
      obtain ⟨a,v⟩:=y
      intro j hj
      simp only [alSet] at hj
      split at hj
      · rename_i e
        simp only [List.map_cons,List.mem_cons] at hj ⊢
        rcases hj with h | h
        · exact .inl h
        · exact .inr (.inr h)
      · simp only [List.map_cons,List.mem_cons] at hj ⊢
        rcases hj with h | h
        · exact .inr (.inl h)
        · rcases ih j h with h | h
          · exact .inl h
          · exact .inr (.inr h)
  induction l with
  | nil=>simp [alSet]
  | cons y r ih =>
    obtain ⟨a,v⟩:=y
    simp only [List.map_cons,List.nodup_cons] at h
    simp only [alSet]
    split
    · rename_i e
      subst e
      simp only [List.map_cons,List.nodup_cons]; exact h
    · rename_i e
      simp only [List.map_cons,List.nodup_cons]
      refine ⟨fun hc=>?_,ih h.2⟩
      rcases mem r a hc with h1 | h1
      · exact e h1.symm
      · exact h.1 h1
theorem alV_len {α β:Type} (f:α → SV) (g:β → SV) (l:List (α × β)):(alV f g l).length=l.length:=by simp [alV]
abbrev intV (n:Int):SV:=.int .i64 n
abbrev cellW (c:Int × Int):SV:=cellV c.1 c.2
theorem seq_int (a b:Int):seq (intV a) (intV b)=some (decide (a=b)):=by simp only [seq,if_true]; rfl
theorem seq_cell (a b:Int × Int):seq (cellW a) (cellW b)=some (decide (a=b)):=by
  obtain ⟨a,c⟩:=a
  obtain ⟨b,d⟩:=b
  simp only [seq,seqs,if_true,Bool.and_true,Option.some.injEq]
  rw [Bool.eq_iff_iff]
  simp
theorem assoc_int {β:Type} (g:β → SV) (k:Int) (l:List (Int × β)):assoc (.int .i64 k) (alV intV g l)=some ((alGet k l).map g):=assoc_al seq_int k l
theorem assoc_cell {β:Type} (g:β → SV) (a b:Int) (l:List ((Int × Int) × β)):assoc (.agg [.int .i64 a,.int .i64 b]) (alV cellW g l)=some ((alGet (a,b) l).map g):=assoc_al seq_cell (a,b) l
structure Wd where
  w:Int
  h:Int
  tiles:List Int
  bl:List Bld
  dirty:List Rc
def atL (l:List Bld) (a b:Int):Option Int:=(l.find? fun x=>hasR x.2 a b).map (·.1)
def Wd.tile (W:Wd) (a b:Int):Int:=(W.tiles[(b * W.w + a).toNat]?).getD 0
def Wd.has (W:Wd) (a b:Int):Bool:=hasB 0 0 W.w W.h a b
structure WP where
  k:Nat
  kb:Nat
  ko:Nat
  tv:SV
  dv:SV
  on:List ((Int × Int) × Int)
def WP.fp (p:WP):List Nat:=[p.k,p.kb,p.ko] ++ slFp p.tv ++ slFp p.dv
structure WorldAt (m:Mem) (p:WP) (W:Wd):Prop where
  hd:m.get (.hp p.k 0)=some (.cells true [.int .i64 W.w,.int .i64 W.h,p.tv,.map (.hp p.kb 0),.map (.hp p.ko 0),p.dv])
  bt:m.get (.hp p.kb 0)=some (.map (alV intV rectR W.bl))
  ot:m.get (.hp p.ko 0)=some (.map (alV cellW intV p.on))
  tl:LiesD byteF m p.tv W.tiles
  dl:LiesD rectF m p.dv W.dirty
  on:∀ a b,alGet (a,b) p.on=atL W.bl a b
  w1:1 ≤ W.w ∧ W.w ≤ 128
  h1:1 ≤ W.h ∧ W.h ≤ 128
  len:(W.tiles.length:Int)=W.w * W.h
  nd:p.fp.Nodup
  ond:(p.on.map Prod.fst).Nodup
section
variable {m X:Mem} {p:WP} {W:Wd} (hW:WorldAt m p W) (hX:HpSub m X)
include hW hX
theorem WorldAt.sub:WorldAt X p W:=⟨hX _ _ _ hW.hd,hX _ _ _ hW.bt,hX _ _ _ hW.ot,hW.tl.sub hX,hW.dl.sub hX,hW.on,hW.w1,hW.h1,hW.len,hW.nd,hW.ond⟩
theorem WorldAt.ld (off:Nat) (n:Option Nat):X.load (.hp p.k 0) off n=partv [.int .i64 W.w,.int .i64 W.h,p.tv,.map (.hp p.kb 0),.map (.hp p.ko 0),p.dv] off n:=by rw [load_get,hX _ _ _ hW.hd]
theorem WorldAt.gb:X.get (.hp p.kb 0)=some (.map (alV intV rectR W.bl)):=hX _ _ _ hW.bt
theorem WorldAt.go:X.get (.hp p.ko 0)=some (.map (alV cellW intV p.on)):=hX _ _ _ hW.ot
end
theorem r_grid_World_is {m:Mem} {p:WP} {W:Wd} (hW:WorldAt m p W) {X:Mem} (hX:HpSub m X) (hw:X.Wf):RF tb f_grid_World_is [.ptr (.hp p.k 0) 0] X=some (.bool true,X):=by
  rw [RF_go t_grid_World_is _ _ rfl]
  simp (maxDischargeDepth:=8) only [go_sem,s_grid_World_is,hw,hX,hW.ld]
theorem r_grid_World_is0 (X:Mem) (hw:X.Wf):RF tb f_grid_World_is [.nilp] X=some (.bool false,X):=by
  rw [RF_go t_grid_World_is _ _ rfl]
  simp (maxDischargeDepth:=8) only [go_sem,s_grid_World_is,hw]
theorem r_grid_World_All {m:Mem} {p:WP} {W:Wd} (hW:WorldAt m p W) {X:Mem} (hX:HpSub m X) (hw:X.Wf):RF tb f_grid_World_All [.ptr (.hp p.k 0) 0] X=some (rect 0 0 W.w W.h,X):=by
  rw [RF_go t_grid_World_All _ _ rfl]
  simp (maxDischargeDepth:=8) only [go_sem,s_grid_World_All,hw,hX,hW.ld,r_grid_World_is hW]
theorem r_grid_World_All0 (X:Mem) (hw:X.Wf):RF tb f_grid_World_All [.nilp] X=some (rect 0 0 0 0,X):=by
  rw [RF_go t_grid_World_All _ _ rfl]
  simp (maxDischargeDepth:=8) only [go_sem,s_grid_World_All,hw,r_grid_World_is0]
theorem r_grid_World_At {m:Mem} {p:WP} {W:Wd} (hW:WorldAt m p W) {X:Mem} (hX:HpSub m X) (hw:X.Wf) (a b:Int):RF tb f_grid_World_At [.ptr (.hp p.k 0) 0,.agg [.int .i64 a,.int .i64 b]] X=some (.tup [.int .i64 ((atL W.bl a b).getD 0),.bool (atL W.bl a b).isSome],X):=by
  rw [RF_go t_grid_World_At _ _ rfl]
  simp (maxDischargeDepth:=8) only [go_sem,s_grid_World_At,hw,hX,hW.ld,r_grid_World_is hW,hW.go,assoc_cell,hW.on]
  cases atL W.bl a b <;> simp (maxDischargeDepth:=8) only [go_sem,hw]
theorem has_in {x y w h a b:Int} (hh:hasB x y w h a b=true):mayB x y w h=true ∧ (x ≤ a ∧ a < x + w) ∧ (y ≤ b ∧ b < y + h):=by
  have:=has_iff.1 hh
  exact ⟨this.1,⟨this.2.1,this.2.2.1⟩,this.2.2.2.1,this.2.2.2.2⟩
theorem idx_lt' {W:Wd} (h1:1 ≤ W.w ∧ W.w ≤ 128) (h2:1 ≤ W.h ∧ W.h ≤ 128) (h3:(W.tiles.length:Int)=W.w * W.h) {a b:Int} (hh:W.has a b=true):0 ≤ a ∧ a < W.w ∧ 0 ≤ b ∧ b < W.h ∧ 0 ≤ b * W.w + a ∧ b * W.w + a < W.tiles.length ∧ b * W.w ≤ 16384 ∧ 0 ≤ b * W.w ∧ W.tiles.length ≤ 16384:=by
  have:=has_in hh
  have e1:b * W.w ≤ (W.h - 1) * W.w:=Int.mul_le_mul_of_nonneg_right (by omega) (by omega)
  have e2:0 ≤ b * W.w:=Int.mul_nonneg (by omega) (by omega)
  have e3:(W.h - 1) * W.w=W.w * W.h - W.w:=by rw [Int.sub_mul,Int.mul_comm]; omega
  have e4:W.w * W.h ≤ 128 * 128:=Int.mul_le_mul h1.2 h2.2 (by omega) (by omega)
  omega
theorem idx_lt {W:Wd} {m:Mem} {p:WP} (hW:WorldAt m p W) {a b:Int} (hh:W.has a b=true):0 ≤ a ∧ a < W.w ∧ 0 ≤ b ∧ b < W.h ∧ 0 ≤ b * W.w + a ∧ b * W.w + a < W.tiles.length ∧ b * W.w ≤ 16384 ∧ 0 ≤ b * W.w ∧ W.tiles.length ≤ 16384:=idx_lt' hW.w1 hW.h1 hW.len hh
theorem _root_.Go.Sh.LiesD.iaddrB {m:Mem} {v:SV} {l:List Int} (h:LiesD byteF m v l) {i:Int} (h0:0 ≤ i) (hi:i < l.length) (k:IntKind) (m':Mem):iaddrV 1 v (.int k i) m'=some (.ptr (.hp (slN v) (slW v)) (slO v + i.toNat),m'):=by
  have:=LiesD.iaddr h (i:=i.toNat) (by omega) k m'
  rw [show byteF.sz=1 from rfl,Nat.mul_one,Int.toNat_of_nonneg h0] at this
  exact this
theorem _root_.Go.Sh.LiesD.loadB {m:Mem} {v:SV} {l:List Int} (h:LiesD byteF m v l) {i:Nat} {a:Int} (hi:l[i]? = some a) {X:Mem} (hX:HpSub m X):X.load (.hp (slN v) (slW v)) (slO v + i) none=some (.int .u8 a):=by
  have:=LiesD.load1 byteF_even (h.sub hX) hi (j:=0) (by decide)
  rw [show byteF.sz=1 from rfl,Nat.mul_one,Nat.add_zero] at this
  exact this
theorem wrap_u8i {x:Int} (h1:0 ≤ x) (h2:x ≤ 255):IntKind.wrap .i64 x=x:=wrap_small (by omega) (by omega)
def Wd.Good (W:Wd):Prop:=∀ x ∈ W.tiles,0 ≤ x ∧ x < 4
theorem tile_in {W:Wd} (hg:W.Good) (a b:Int):0 ≤ W.tile a b ∧ W.tile a b < 4:=by
  unfold Wd.tile
  cases h:W.tiles[(b * W.w + a).toNat]? with
  | none=>simp
  | some x=>exact hg x (List.mem_of_getElem? h)
theorem r_grid_World_Terrain {m:Mem} {p:WP} {W:Wd} (hW:WorldAt m p W) (hg:W.Good) {X:Mem} (hX:HpSub m X) (hw:X.Wf) (a b:Int):RF tb f_grid_World_Terrain [.ptr (.hp p.k 0) 0,.agg [.int .i64 a,.int .i64 b]] X=some (.tup [.int .i64 (if W.has a b then W.tile a b else 0),.bool (W.has a b)],X):=by
  rw [RF_go t_grid_World_Terrain _ _ rfl]
  simp (maxDischargeDepth:=8) only [go_sem,s_grid_World_Terrain,hw,hX,hW.ld,r_grid_World_All hW,r_cell_Has]
  cases hh:W.has a b with
  | false =>
    have hh':hasB 0 0 W.w W.h a b=false:=hh
    simp (maxDischargeDepth:=8) only [go_sem,hw,hh']
  | true =>
    have hh':hasB 0 0 W.w W.h a b=true:=hh
    have h1:=idx_lt hW hh
    have hlt:(b * W.w + a).toNat < W.tiles.length:=by omega
    have hel:W.tiles[(b * W.w + a).toNat]? = some W.tiles[(b * W.w + a).toNat]:=List.getElem?_eq_getElem hlt
    have ht:W.tile a b=W.tiles[(b * W.w + a).toNat]:=by simp only [Wd.tile,hel,Option.getD_some]
    have h3:=tile_in hg a b
    rw [← ht] at hel
    simp (maxDischargeDepth:=8) only [go_sem,hw,hh',hX,hW.ld,wrap_small (x:=b * W.w) (by omega) (by omega),wrap_small (x:=b * W.w + a) (by omega) (by omega),hW.tl.iaddrB h1.2.2.2.2.1 h1.2.2.2.2.2.1,hW.tl.loadB hel,wrap_u8i h3.1 (show W.tile a b ≤ 255 by omega)]
def bmayB (b:Bld) (q:Rc):Bool:=decide (b.1 ≥ 1) && decide (b.1 ≤ 2147483647) && decide (b.2.2.2.1 ≤ 8) && decide (b.2.2.2.2 ≤ 8) && withinB b.2.1 b.2.2.1 b.2.2.2.1 b.2.2.2.2 q.1 q.2.1 q.2.2.1 q.2.2.2
theorem r_grid_may (X:Mem) (hw:X.Wf) (id x y w hh a b c d:Int):RF tb f_grid_may [.agg [.int .i64 id,.int .i64 x,.int .i64 y,.int .i64 w,.int .i64 hh],.agg [.int .i64 a,.int .i64 b,.int .i64 c,.int .i64 d]] X=some (.bool (bmayB (id,x,y,w,hh) (a,b,c,d)),X):=by
  rw [RF_go t_grid_may _ _ rfl]
  simp (maxDischargeDepth:=8) only [go_sem,s_grid_may,hw,r_cell_Within]
  repeat' ((first | rw [KG_bool] | rw [KC_bool]); split <;> rename_i h <;> (try simp only [Bool.not_eq_true,Bool.not_not,Bool.not_eq_eq_eq_not,Bool.not_true,Bool.not_false] at h) <;> simp (maxDischargeDepth:=8) only [go_sem,h,hw,r_cell_Within])
  all_goals simp_all [bmayB]
  all_goals (intros; omega)
theorem _root_.Go.Sh.LiesD.iaddr5 {m:Mem} {v:SV} {l:List Bld} (h:LiesD bldF m v l) {i:Nat} (hi:i < l.length) (k:IntKind) (m':Mem):iaddrV 5 v (.int k (i:Int)) m'=some (.ptr (.hp (slN v) (slW v)) (slO v + i * 5),m'):=LiesD.iaddr h hi k m'
theorem _root_.Go.Sh.LiesD.load5 {m:Mem} {v:SV} {l:List Bld} (h:LiesD bldF m v l) {i:Nat} {a:Bld} (hi:l[i]? = some a) {X:Mem} (hX:HpSub m X):X.load (.hp (slN v) (slW v)) (slO v + i * 5) (some 5)=some (bldV a):=LiesD.loadX bldF_even (by decide) h hi hX
theorem _root_.Go.Sh.LiesD.iaddr4 {m:Mem} {v:SV} {l:List Rc} (h:LiesD rectF m v l) {i:Nat} (hi:i < l.length) (k:IntKind) (m':Mem):iaddrV 4 v (.int k (i:Int)) m'=some (.ptr (.hp (slN v) (slW v)) (slO v + i * 4),m'):=LiesD.iaddr h hi k m'
theorem _root_.Go.Sh.LiesD.load4 {m:Mem} {v:SV} {l:List Rc} (h:LiesD rectF m v l) {i:Nat} {a:Rc} (hi:l[i]? = some a) {X:Mem} (hX:HpSub m X):X.load (.hp (slN v) (slW v)) (slO v + i * 4) (some 4)=some (rectR a):=LiesD.loadX rectF_even (by decide) h hi hX
def Wd.all (W:Wd):Rc:=(0,0,W.w,W.h)
def Wd.full (W:Wd) (r:Rc):Bool:=(cellsP r.1 r.2.1 r.2.2.1 r.2.2.2).any fun c=>(atL W.bl c.1 c.2).isSome
def Wd.may (W:Wd) (b:Bld):Int:=if bmayB b W.all=false then 1 else if (alGet b.1 W.bl).isSome then 8 else if W.bl.length ≥ 256 then 2 else if W.full b.2 then 6 else 0
theorem ge_nat (n:Nat):decide ((n:Int) ≥ 256)=decide (n ≥ 256):=by rw [Bool.eq_iff_iff]; simp; omega
theorem getD_rect (o:Option Rc):∃ a b c d,(o.map rectR).getD (rect 0 0 0 0)=rect a b c d:=by cases o <;> exact ⟨_,_,_,_,rfl⟩
theorem map_some' {α β:Type} (o:Option α) (f:α → β):(o.map f).isSome=o.isSome:=by cases o <;> rfl
theorem r_grid_World_May {m:Mem} {p:WP} {W:Wd} (hW:WorldAt m p W) {X:Mem} (hX:HpSub m X) (hw:X.Wf) (id x y w hh:Int):RF tb f_grid_World_May [.ptr (.hp p.k 0) 0,bldV (id,x,y,w,hh)] X=some (.int .i64 (W.may (id,x,y,w,hh)),X):=by
  rw [RF_go t_grid_World_May _ _ rfl,push_hp]
  generalize hH:X.heap=H
  simp (maxDischargeDepth:=8) only [go_sem,s_grid_World_May,hw,hX,hH,hW.ld,r_grid_World_is hW,r_grid_World_All hW,r_grid_may]
  cases h1:bmayB (id,x,y,w,hh) (0,0,W.w,W.h) with
  | false =>
    simp (maxDischargeDepth:=8) only [go_sem,hw,hH]
    have e:W.may (id,x,y,w,hh)=1:=by unfold Wd.may; exact if_pos h1
    rw [e]
  | true =>
    have h1':¬ bmayB (id,x,y,w,hh) W.all=false:=by rw [show bmayB (id,x,y,w,hh) W.all=true from h1]; simp
    simp (maxDischargeDepth:=8) only [go_sem,hw,hX,hH,hW.ld,hW.gb,assoc_int,map_some']
    obtain ⟨a,b,c,d,hg⟩:=getD_rect (alGet id W.bl)
    simp (maxDischargeDepth:=8) only [go_sem,hw,hX,hH,hg]
    cases h2:(alGet id W.bl).isSome with
    | true =>
      simp (maxDischargeDepth:=8) only [go_sem,hw,hH]
      have e:W.may (id,x,y,w,hh)=8:=by unfold Wd.may; rw [if_neg h1',if_pos h2]
      rw [e]
    | false =>
      simp (maxDischargeDepth:=8) only [go_sem,hw,hX,hH,hW.ld,hW.gb,alV_len,ge_nat]
      cases h3:decide (W.bl.length ≥ 256) with
      | true =>
        simp (maxDischargeDepth:=8) only [go_sem,hw,hH]
        have e:W.may (id,x,y,w,hh)=2:=by unfold Wd.may; rw [if_neg h1',if_neg (by simp [h2]),if_pos (of_decide_eq_true h3)]
        rw [e]
      | false =>
        simp (maxDischargeDepth:=8) only [go_sem,hw,hX,hH,r_cell_Cells]
        rw [cells_findG (fun M=>(M.sc X.dep 2 [.int .i64 6]).lp (.st X.dep 4) .done (some .ret)) (fun a b=>(atL W.bl a b).isSome) (d:=X.dep + 1) (x:=x) (y:=y) (w:=w) (hh:=hh) (by omega)]
        case hB=>exact ⟨rfl,by simp (maxDischargeDepth:=8) only [go_sem,hw],by simp (maxDischargeDepth:=8) only [go_sem,hapGet]⟩
        case hB'=>exact ⟨by simp (maxDischargeDepth:=8) only [go_sem,hw],by simp (maxDischargeDepth:=8) only [go_sem,hw],by simp (maxDischargeDepth:=8) only [go_sem,hapGet]⟩
        case hl=>simp (maxDischargeDepth:=8) only [go_sem]
        case he=>simp (maxDischargeDepth:=8) only [go_sem]
        case step =>
          intro a b hab fs e
          rw [RV_go (l:=⟨.ready,none,_,_,_,_⟩) _ _ _ (by simp (maxDischargeDepth:=8) only [go_sem]; rfl) rfl rfl (by simp (maxDischargeDepth:=8) only [go_sem,hw])]
          simp (maxDischargeDepth:=8) only [go_sem,hw,hX,hH,hW.ld,hW.go,assoc_cell,hW.on]
          cases atL W.bl a b <;> simp (maxDischargeDepth:=8) only [go_sem,hw]
        cases h4:(cellsP x y w hh).any fun c=>(atL W.bl c.1 c.2).isSome with
        | true =>
          simp (maxDischargeDepth:=8) only [go_sem,hw,hH]
          have e:W.may (id,x,y,w,hh)=6:=by unfold Wd.may; rw [if_neg h1',if_neg (by simp [h2]),if_neg (of_decide_eq_false h3)]; exact if_pos h4
          rw [e]
        | false =>
          simp (maxDischargeDepth:=8) only [go_sem,hw,hH]
          have e:W.may (id,x,y,w,hh)=0:=by unfold Wd.may; rw [if_neg h1',if_neg (by simp [h2]),if_neg (of_decide_eq_false h3),if_neg (by unfold Wd.full; simp [h4])]
          rw [e]
def Wd.place (W:Wd) (b:Bld):Wd:=if W.may b=0 then { W with bl:=W.bl ++ [b],dirty:=W.dirty ++ [b.2] } else W
theorem alSet_new {α β:Type} [DecidableEq α] {k:α} {x:β} {l:List (α × β)} (h:alGet k l=none):alSet k x l=l ++ [(k,x)]:=by
  induction l with
  | nil=>rfl
  | cons y r ih =>
    obtain ⟨a,v⟩:=y
    unfold alGet at h
    unfold alSet
    split at h
    · cases h
    · rename_i e
      rw [if_neg e,ih h]; rfl
def onAdd (l:List (Int × Int)) (id:Int) (on:List ((Int × Int) × Int)):List ((Int × Int) × Int):=l.foldl (fun o c=>alSet c id o) on
theorem onAdd_get (id:Int) (c:Int × Int):∀ (l:List (Int × Int)) (on:List ((Int × Int) × Int)),alGet c (onAdd l id on)=if c ∈ l then some id else alGet c on
  | [],on=>by simp [onAdd]
  | a :: l,on=>by
    show alGet c (onAdd l id (alSet a id on))=_
    rw [onAdd_get id c l,alGet_set]
    by_cases h1:c ∈ l
    · simp [h1]
    · by_cases h2:c=a
      · simp [h2]
      · simp [h1,h2]
theorem onAdd_keys (id:Int):∀ (l:List (Int × Int)) (on:List ((Int × Int) × Int)),(on.map Prod.fst).Nodup → ((onAdd l id on).map Prod.fst).Nodup
  | [],_,h=>h
  | a :: l,on,h=>onAdd_keys id l _ (alSet_keys a id on h)
theorem onAdd_succ {l:List (Int × Int)} {k:Nat} {c:Int × Int} (h:l[k]? = some c) (id:Int) (on:List ((Int × Int) × Int)):onAdd (l.take (k + 1)) id on=alSet c id (onAdd (l.take k) id on):=by
  unfold onAdd
  rw [List.take_add_one,h]
  simp
theorem may0 {W:Wd} {b:Bld} (h:W.may b=0):bmayB b W.all=true ∧ alGet b.1 W.bl=none ∧ W.bl.length < 256 ∧ W.full b.2=false:=by
  unfold Wd.may at h
  cases h1:bmayB b W.all with
  | false=>rw [if_pos h1] at h; cases h
  | true =>
    rw [if_neg (by simp [h1])] at h
    cases h2:alGet b.1 W.bl with
    | some x=>rw [if_pos (by simp [h2])] at h; cases h
    | none =>
      rw [if_neg (by simp [h2])] at h
      by_cases h3:W.bl.length ≥ 256
      · rw [if_pos h3] at h; cases h
      · rw [if_neg h3] at h
        cases h4:W.full b.2 with
        | true=>rw [if_pos h4] at h; cases h
        | false=>exact ⟨rfl,rfl,by omega,rfl⟩
theorem full_at {W:Wd} {r:Rc} (h:W.full r=false) {a b:Int} (hh:hasR r a b=true):atL W.bl a b=none:=by
  unfold Wd.full at h
  have:=List.any_eq_false.1 h (a,b) (cellsP_mem.2 hh)
  simpa using this
theorem atL_app {l:List Bld} {b:Bld} (a c:Int):atL (l ++ [b]) a c=(atL l a c).or (if hasR b.2 a c then some b.1 else none):=by
  unfold atL
  rw [List.find?_append]
  cases l.find? fun x=>hasR x.2 a c with
  | some x=>rfl
  | none =>
    simp only [Option.none_or,Option.map_none,List.find?_cons,List.find?_nil]
    cases hasR b.2 a c <;> rfl
structure WP.Apart (p:WP):Prop where
  a:¬ p.kb=p.k
  b:¬ p.ko=p.k
  c:¬ p.kb=p.ko
  d:¬ p.ko=p.kb
  a':¬ p.k=p.kb
  b':¬ p.k=p.ko
  t:∀ i ∈ slFp p.tv,i ≠ p.k ∧ i ≠ p.kb ∧ i ≠ p.ko ∧ i ∉ slFp p.dv
  e:∀ i ∈ slFp p.dv,i ≠ p.k ∧ i ≠ p.kb ∧ i ≠ p.ko
theorem WP.apart {p:WP} (h:p.fp.Nodup):p.Apart:=by
  simp only [WP.fp,List.cons_append,List.nil_append,List.nodup_cons,List.mem_cons,List.mem_append,not_or,List.nodup_append] at h
  obtain ⟨⟨h1,h2,h3,h4⟩,⟨h5,h6,h7⟩,⟨h8,h9⟩,h10,h11,h12⟩:=h
  exact ⟨fun e=>h1 e.symm,fun e=>h2 e.symm,h5,fun e=>h5 e.symm,h1,h2,fun i hi=>⟨fun e=>h3 (e ▸ hi),fun e=>h6 (e ▸ hi),fun e=>h8 (e ▸ hi),fun h=>h12 i hi i h rfl⟩,fun i hi=>⟨fun e=>h4 (e ▸ hi),fun e=>h7 (e ▸ hi),fun e=>h9 (e ▸ hi)⟩⟩
theorem WorldAt.congr {A B:Hp} {p:WP} {W:Wd} (h:WorldAt (Hm A) p W) (hc:∀ i ∈ p.fp,B[i]? = A[i]?):WorldAt (Hm B) p W :=
  ⟨(hget_congr (hc _ (by simp [WP.fp])) 0).trans h.hd,(hget_congr (hc _ (by simp [WP.fp])) 0).trans h.bt,(hget_congr (hc _ (by simp [WP.fp])) 0).trans h.ot,
    h.tl.congr fun i hi=>hc i (by simp [WP.fp,hi]),h.dl.congr fun i hi=>hc i (by simp [WP.fp,hi]),h.on,h.w1,h.h1,h.len,h.nd,h.ond⟩
theorem WorldAt.lt {H:Hp} {p:WP} {W:Wd} (h:WorldAt (Hm H) p W):∀ i ∈ p.fp,i < H.length:=by
  intro i hi
  simp only [WP.fp,List.cons_append,List.nil_append,List.mem_cons,List.mem_append] at hi
  rcases hi with rfl | rfl | rfl | hi | hi
  · exact hget_lt h.hd
  · exact hget_lt h.bt
  · exact hget_lt h.ot
  · exact h.tl.fp i hi
  · exact h.dl.fp i hi
theorem on_place {W:Wd} {on:List ((Int × Int) × Int)} {b:Bld} (h:∀ a c,alGet (a,c) on=atL W.bl a c) (hf:W.full b.2=false) (a c:Int):alGet (a,c) (onAdd (cellsP b.2.1 b.2.2.1 b.2.2.2.1 b.2.2.2.2) b.1 on)=atL (W.bl ++ [b]) a c:=by
  rw [onAdd_get,atL_app,h]
  cases hh:hasR b.2 a c with
  | true=>rw [if_pos (cellsP_mem.2 hh),full_at hf hh]; rfl
  | false =>
    rw [if_neg (fun hc=>by rw [show hasR b.2 a c=true from cellsP_mem.1 hc] at hh; cases hh)]
    cases atL W.bl a c <;> rfl
structure WorldOwn (H:Hp) (p:WP) (W:Wd):Prop where
  at_:WorldAt (Hm H) p W
  own:Own rectF H p.dv W.dirty
theorem WorldOwn.congr {A B:Hp} {p:WP} {W:Wd} (h:WorldOwn A p W) (hc:∀ i ∈ p.fp,B[i]? = A[i]?):WorldOwn B p W :=
  ⟨h.at_.congr hc,h.own.congr fun i hi=>hc i (by simp [WP.fp,hi])⟩
theorem r_grid_World_Place_no {m:Mem} {p:WP} {W:Wd} (hW:WorldAt m p W) {X:Mem} (hX:HpSub m X) (hw:X.Wf) (id x y w hh:Int) (h0:¬ W.may (id,x,y,w,hh)=0) :
    RF tb f_grid_World_Place [.ptr (.hp p.k 0) 0,bldV (id,x,y,w,hh)] X=some (.int .i64 (W.may (id,x,y,w,hh)),X):=by
  rw [RF_go t_grid_World_Place _ _ rfl]
  simp (maxDischargeDepth:=8) only [go_sem,s_grid_World_Place,hw,hX,r_grid_World_May hW,show (W.may (id,x,y,w,hh) != 0)=true from bne_iff_ne.2 h0]
theorem r_grid_World_Place {X:Mem} {p:WP} {W:Wd} (hO:WorldOwn X.heap p W) (hw:X.Wf) (hhb:∀ n ∈ p.fp,X.hb ≤ n) (hd:W.dirty.length ≤ 1073741824) (id x y w hh:Int) (h0:W.may (id,x,y,w,hh)=0) :
    ∃ H' u p',RF tb f_grid_World_Place [.ptr (.hp p.k 0) 0,bldV (id,x,y,w,hh)] X=some (.int .i64 0,(X.hp H').es (escMin X.esc u)) ∧ WorldOwn H' p' (W.place (id,x,y,w,hh)) ∧ Keep p.fp X.heap H' ∧ p'.k=p.k ∧ (∀ i ∈ p'.fp,i ∈ p.fp ∨ X.heap.length ≤ i) ∧ (u=none ∨ u=some p.k):=by
  obtain ⟨hW,hdo⟩:=hO
  rw [RF_go t_grid_World_Place _ _ rfl,push_hp]
  generalize hH:X.heap=H at *
  obtain ⟨m1,m2,m3,m4⟩:=may0 h0
  have ap:=WP.apart hW.nd
  have ghd:hget H p.k 0=_:=hW.hd
  have gbt:hget H p.kb 0=_:=hW.bt
  have got:hget H p.ko 0=_:=hW.ot
  have b1:X.hb ≤ p.kb:=hhb _ (by simp [WP.fp])
  have b3:X.hb ≤ p.ko:=hhb _ (by simp [WP.fp])
  have eset:assocSet (.int .i64 id) (.agg [.int .i64 x,.int .i64 y,.int .i64 w,.int .i64 hh]) (alV intV rectR W.bl)=alV intV rectR (W.bl ++ [(id,x,y,w,hh)]):=by
    rw [← alSet_new (x:=(x,y,w,hh)) m2]
    exact set_al (g:=rectR) seq_int id (x,y,w,hh) W.bl
  obtain ⟨H1,hH1⟩:∃ H1,H.set p.kb (0,SBk.map (alV intV rectR (W.bl ++ [(id,x,y,w,hh)])))=H1:=⟨_,rfl⟩
  have len1:H1.length=H.length:=by rw [← hH1,List.length_set]
  have g2:hget H1 p.kb 0=some (SBk.map (alV intV rectR (W.bl ++ [(id,x,y,w,hh)]))):=by rw [← hH1,hget_set_eq (hget_lt gbt)]; rfl
  have k1:Keep [p.kb] H H1:=by rw [← hH1]; exact Keep.set (by simp) _ _
  have g1:=k1.get ghd (by simp [ap.a'])
  have g3:=k1.get got (by simp [ap.d])
  simp (maxDischargeDepth:=8) only [go_sem,s_grid_World_Place,hw,hH,r_grid_World_May hW,h0,ghd,gbt,assoc_int,eset,b1,hH1,r_cell_Cells]
  generalize hcs:(SBk.cells true [SV.int IntKind.i64 x,SV.int IntKind.i64 y,SV.int IntKind.i64 w,SV.int IntKind.i64 hh])=box
  generalize hz:RF tb f_cell_Cells_1 _ _=z
  refine cells_rangeZ hz x y w hh (d:=X.dep + 1)
    (fun M k m u=>u=none ∧ ∃ Hk,m=M.hp Hk ∧ hget Hk p.ko 0=some (.map (alV cellW intV (onAdd ((cellsP x y w hh).take k) id p.on))) ∧ Keep [p.ko] (H1 ++ [(0,box)]) Hk ∧ Hk.length=H1.length + 1) (fun _ _ _ _=>False) (Nat.lt_succ_self _) ?_ ?_ ?_ ?_
  · refine ⟨rfl,by simp (maxDischargeDepth:=8) only [go_sem,hw],?_⟩; subst hcs; simp (maxDischargeDepth:=8) only [go_sem,hapGet]
  · exact ⟨rfl,_,rfl,hget_app_some _ g3,Keep.refl _ _,by show (H1 ++ [(0,box)]).length=_; rw [List.length_append]; rfl⟩
  · rintro k a b m u hk ⟨rfl,Hk,hm,f1,f2,f3⟩
    have g1':=f2.get (hget_app_some [(0,box)] g1) (by simp [ap.b'])
    have hbx:hget Hk H1.length 0=some box:=f2.get (by rw [hget_new0]; rfl) (by simp; have:=hget_lt g3; omega)
    have lko:p.ko < H1.length:=hget_lt g3
    have eS:assocSet (.agg [.int .i64 a,.int .i64 b]) (.int .i64 id) (alV cellW intV (onAdd ((cellsP x y w hh).take k) id p.on))=alV cellW intV (onAdd ((cellsP x y w hh).take (k + 1)) id p.on):=by
      rw [onAdd_succ hk]
      exact set_al (g:=intV) seq_cell (a,b) id _
    refine ⟨m.hp (Hk.set p.ko (0,.map (alV cellW intV (onAdd ((cellsP x y w hh).take (k + 1)) id p.on)))),none,true,?_,?_,.inl ?_,fun _=>⟨rfl,_,by rw [hm]; rfl,?_,?_,?_⟩,fun h=>by cases h⟩
    · subst hm
      intro fs e
      rw [RV_go (l:=⟨.ready,none,_,_,_,_⟩) _ _ _ (by simp (maxDischargeDepth:=8) only [go_sem]; rfl) rfl rfl (by simp (maxDischargeDepth:=8) only [go_sem,hw])]
      simp (maxDischargeDepth:=8) only [go_sem,hw,hH,g1',f1,assoc_cell,eS,b3]
    · subst hm
      refine ⟨by simp (maxDischargeDepth:=8) only [go_sem],by simp (maxDischargeDepth:=8) only [go_sem,hw],?_⟩
      subst hcs
      simp (maxDischargeDepth:=8) only [go_sem,hget_set_ne (Nat.ne_of_lt lko),hbx]
    · subst hm; simp (maxDischargeDepth:=8) only [go_sem,f3]; simp [f3]
    · rw [hget_set_eq (by omega)]; rfl
    · exact f2.trans (Keep.set (by simp) _ _)
    · rw [List.length_set,f3]
  · rintro M' U rfl hb hn (⟨rfl,Hk,hm,f1,f2,f3⟩ | ⟨_,_,h⟩)
    · subst hm
      have g1':=f2.get (hget_app_some [(0,box)] g1) (by simp [ap.b'])
      rw [List.take_length] at f1
      have g2':=f2.get (hget_app_some [(0,box)] g2) (by simp [ap.c])
      have kk:Keep [p.kb,p.ko] H (Hk ++ [(0,.cells true [.int .i64 x,.int .i64 y,.int .i64 w,.int .i64 hh])]):=((k1.weak (by simp)).trans ((Keep.app _ _ _).trans (f2.weak (by simp)))).trans (Keep.app _ _ _)
      have hdo':Own rectF (Hk ++ [(0,.cells true [.int .i64 x,.int .i64 y,.int .i64 w,.int .i64 hh])]) p.dv W.dirty:=hdo.keep kk (fun i hi=>by have:=ap.e i hi; simp [this.2])
      have hy:LiesD rectF (Hm (Hk ++ [(0,.cells true [.int .i64 x,.int .i64 y,.int .i64 w,.int .i64 hh])])) (.sl (.hp Hk.length 0) 0 1 (some 1) 4) [(x,y,w,hh)]:=(own_new rectF_even Hk [(x,y,w,hh)] (some 1)).lies rectF_even
      obtain ⟨v',H2,ha,o1,o2,o3,⟨o4,o5,o6⟩,o7⟩:=app_own rectF_even (by decide) rectF_ok (fun l=>by induction l with | nil=>rfl | cons a l ih=>simp only [List.flatMap_cons]; exact ih) hdo' hy (bytes:=32) (by simp only [List.length_singleton,two48]; omega) (by simp only [List.length_singleton,two48]; omega) X (fun i hi=>hhb i (by simp [WP.fp,hi]))
      have ha':=ha [.int .i64 0,.int .i64 0,.int .i64 0,.int .i64 0] rfl _ (hdo.aw (aw:=fun b=>decide ¬Bk.st X.dep 0=b) (by simp))
      change ∀ f e,appV 4 32 _ _ _ _ _=_ at ha'
      have g1'':=o2.get (hget_app_some [(0,.cells true [.int .i64 x,.int .i64 y,.int .i64 w,.int .i64 hh])] g1') (fun hi=>(ap.e _ hi).1 rfl)
      have b0:X.hb ≤ p.k:=hhb _ (by simp [WP.fp])
      simp (maxDischargeDepth:=8) only [go_sem,hw,g1',ha',o4,o5,o6,g1'',b0]
      obtain ⟨H3,hH3⟩:∃ H3,H2.set p.k (0,SBk.cells true [.int .i64 W.w,.int .i64 W.h,p.tv,.map (.hp p.kb 0),.map (.hp p.ko 0),v'])=H3:=⟨_,rfl⟩
      rw [hH3]
      have K3:Keep (p.k :: slFp p.dv) (Hk ++ [(0,.cells true [.int .i64 x,.int .i64 y,.int .i64 w,.int .i64 hh])]) H3:=(o2.weak (fun n hn _=>List.mem_cons_of_mem _ hn)).trans (by rw [← hH3]; exact Keep.set (by simp) _ _)
      have KK:Keep p.fp H H3:=(kk.weak (by simp [WP.fp])).trans' K3 (by intro n hn _; simp only [List.mem_cons] at hn; simp only [WP.fp,List.mem_append,List.mem_cons]; rcases hn with rfl | hn <;> simp [*])
      have KT:Keep ([p.k,p.kb,p.ko] ++ slFp p.dv) H H3:=(kk.weak (by simp)).trans' K3 (by intro n hn _; simp only [List.mem_cons] at hn; simp only [List.mem_append,List.mem_cons]; rcases hn with rfl | hn <;> simp [*])
      have hHl:X.hl=H.length:=by rw [← hH]; rfl
      have lfp:=hW.lt
      have l0:=lfp p.k (by simp [WP.fp])
      have lk:H.length ≤ (Hk ++ [(0,SBk.cells true [.int .i64 x,.int .i64 y,.int .i64 w,.int .i64 hh])]).length:=by simp [f3]; omega
      have o3':∀ i ∈ slFp v',i ∈ slFp p.dv ∨ H.length ≤ i:=fun i hi=>(o3 i hi).imp_right fun h=>Nat.le_trans lk h
      have kv:∀ i ∈ slFp v',¬ i=p.k:=by
        intro i hi e
        rcases o3' i hi with h1 | h1
        · exact (ap.e i h1).1 e
        · omega
      have hH2l:p.k < H2.length:=hget_lt g1''
      have nd':({ p with dv:=v',on:=onAdd (cellsP x y w hh) id p.on }:WP).fp.Nodup:=nodup_new hW.nd (fun i hi=>lfp i (by simp only [WP.fp,List.mem_append]; exact .inl (by simpa [or_assoc] using hi))) o3'
      have epl:W.place (id,x,y,w,hh)={ W with bl:=W.bl ++ [(id,x,y,w,hh)],dirty:=W.dirty ++ [(x,y,w,hh)] }:=if_pos h0
      have W3:WorldOwn H3 { p with dv:=v',on:=onAdd (cellsP x y w hh) id p.on } (W.place (id,x,y,w,hh)):=by
        rw [epl]
        have ow:Own rectF H3 v' (W.dirty ++ [(x,y,w,hh)]):=by
          rw [← hH3]
          exact o1.keep (Keep.set (S:=[p.k]) (by simp) _ _) (fun i hi=>by simpa using kv i hi)
        exact ⟨⟨by rw [← hH3]; exact (hget_set_eq hH2l).trans (if_pos rfl),K3.get (hget_app_some _ g2') (by simp only [List.mem_cons,not_or]; exact ⟨ap.a,fun hi=>(ap.e _ hi).2.1 rfl⟩),
          K3.get (hget_app_some _ f1) (by simp only [List.mem_cons,not_or]; exact ⟨ap.b,fun hi=>(ap.e _ hi).2.2 rfl⟩),
          hW.tl.keep KT (fun i hi=>by
            have:=ap.t i hi
            simp only [List.mem_append,List.mem_cons,List.not_mem_nil,or_false,not_or]
            exact ⟨⟨this.1,this.2.1,this.2.2.1⟩,this.2.2.2⟩),ow.lies rectF_even,on_place hW.on m4,hW.w1,hW.h1,hW.len,nd',onAdd_keys _ _ _ hW.ond⟩,ow⟩
      refine ⟨_,_,{ p with dv:=v',on:=onAdd (cellsP x y w hh) id p.on },rfl,W3.congr fun i hi=>fin_keep0 ?_,(by rw [← hH] at KK ⊢; exact KK.back0),rfl,?_,?_⟩
      · by_cases hi':i < X.hl
        · exact .inl hi'
        · right
          have hiv:i ∈ slFp v':=by
            simp only [WP.fp,List.mem_append,List.mem_cons,List.not_mem_nil,or_false] at hi
            rcases hi with (h | h) | h
            · have:i ∈ p.fp:=by simp only [WP.fp,List.mem_append,List.mem_cons,List.not_mem_nil,or_false]; exact .inl (.inl h)
              have:=lfp i this; omega
            · have:i ∈ p.fp:=by simp only [WP.fp,List.mem_append,List.mem_cons,List.not_mem_nil,or_false]; exact .inl (.inr h)
              have:=lfp i this; omega
            · exact h
          rw [hx_fp hiv,if_neg (by omega)]
          exact escOk_some (by omega)
      · intro i hi
        simp only [WP.fp,List.mem_append,List.mem_cons,List.not_mem_nil,or_false] at hi ⊢
        rcases hi with h | h
        · exact .inl (.inl h)
        · exact (o3' i h).imp_left .inr
      · split <;> simp
    · cases h
theorem r_slices_Clone_byte_byte {X:Mem} {v:SV} {l:List Int} (hp:LiesD byteF (Hm X.heap) v l) (hb:2 * l.length * 1 ≤ two48) (hw:X.Wf) (hhb:X.hb ≤ X.hl) :
    ∃ v' H',RF tb f_slices_Clone_byte_byte [v] X=some (v',X.hp H') ∧ Own byteF H' v' l ∧ Keep [] X.heap H' ∧ (∀ i ∈ slFp v',X.heap.length ≤ i):=by
  rw [RF_go t_slices_Clone_byte_byte _ _ rfl,push_hp]
  generalize hH:X.heap=H at *
  have hHl:X.hl=H.length:=by rw [← hH]; rfl
  have own0:Own byteF (H ++ [(0,.cells true [])]) (.sl (.hp H.length 0) 0 0 (some 0) 1) []:=own_new byteF_even H [] (some 0)
  have hp':LiesD byteF (Hm (H ++ [(0,.cells true [])])) v l:=hp.keep (Keep.app [] _ _) (by simp)
  obtain ⟨v',H',ha,o1,o2,o3,o4,o5⟩:=app_own byteF_even (by decide) byteF_ok (fun l=>by induction l with | nil=>rfl | cons a l ih=>simp only [List.flatMap_cons]; exact ih) own0 hp' (bytes:=1) (by simpa using hb) (by simp only [two48] at *; simp; omega) X (fun i hi=>by simp [slFp] at hi; omega)
  have ha':=ha [.int .u8 0] rfl (fun b=>true) rfl
  change ∀ f e,appV 1 1 _ _ _ _ _=_ at ha'
  have s1:=o1.isSl byteF_even
  have o3':∀ i ∈ slFp v',H.length ≤ i:=fun i hi=>by
    rcases o3 i hi with h | h
    · simp [slFp] at h; omega
    · simp at h; omega
  have fin:Own byteF (if v'.hx ≤ X.hl then H'.take X.hl else H') v' l ∧ Keep [] H (if v'.hx ≤ X.hl then H'.take X.hl else H'):=by
    refine ⟨(by simpa using o1:Own byteF H' v' l).congr fun i hi=>fin_keep1 (.inr ?_),?_⟩
    · have:=o3' i hi
      rw [hx_fp hi]
      omega
    · have:=((Keep.app [] H [(0,.cells true [])]).trans' o2 (by simp [slFp]))
      rw [← hH] at this ⊢
      exact this.back1
  rcases hp.2 with ⟨rfl,h0⟩ | ⟨rfl,h0⟩ | ⟨k,w,off,cap,c,rw,rfl,_⟩
  · simp (maxDischargeDepth:=8) only [go_sem,s_slices_Clone_byte_byte,hw,hH]
    have:l=[]:=List.eq_nil_of_length_eq_zero h0
    subst this
    exact ⟨.nils,H,by rw [← hH]; rfl,Own.nil _,Keep.refl _ _,by simp [slFp]⟩
  · simp (maxDischargeDepth:=8) only [go_sem,s_slices_Clone_byte_byte,hw,ha',s1.c,s1.l]
    exact ⟨_,_,rfl,fin.1,fin.2,o3'⟩
  · simp (maxDischargeDepth:=8) only [go_sem,s_slices_Clone_byte_byte,hw,ha',s1.c,s1.l]
    exact ⟨_,_,rfl,fin.1,fin.2,o3'⟩
def newGo (W:Wd) (last:Int):List Bld → Option Wd
  | []=>some W
  | b :: r=>if b.1 ≤ last ∨ W.may b ≠ 0 then none else newGo (W.place b) b.1 r
theorem newGo_cons (W:Wd) (last:Int) (b:Bld) (r:List Bld):newGo W last (b :: r)=if b.1 ≤ last ∨ W.may b ≠ 0 then none else newGo (W.place b) b.1 r:=rfl
def dimsOk (w h:Int) (n:Nat):Bool:=decide (1 ≤ w) && decide (w ≤ 128) && decide (1 ≤ h) && decide (h ≤ 128) && decide ((n:Int)=w * h)
def newW (w h:Int) (tiles:List Int) (bl:List Bld):Option Wd:=if dimsOk w h tiles.length && tiles.all (fun t=>decide (t < 4)) then (newGo ⟨w,h,tiles,[],[]⟩ 0 bl).map fun W=>{ W with dirty:=[] } else none
def NewPost (X:Mem) (o:Option Wd) (z:Option (SV × Mem)):Prop:=match o with
  | none=>∃ H' u,z=some (.tup [.nilp,.int .i64 1],(X.hp H').es (escMin X.esc u)) ∧ Keep [] X.heap H'
  | some W=>∃ H' u p,z=some (.tup [.ptr (.hp p.k 0) 0,.int .i64 0],(X.hp H').es (escMin X.esc u)) ∧ WorldOwn H' p W ∧ Keep [] X.heap H' ∧ ∀ i ∈ p.fp,X.heap.length ≤ i
theorem wrap_succ {i:Nat} (h:i ≤ 4611686018427387903):IntKind.wrap .i64 ((i:Int) + 1)=((i + 1:Nat):Int):=by rw [wrap_small (by omega) (by omega)]; rfl
theorem wrap_mul {w h:Int} (h1:1 ≤ w ∧ w ≤ 128) (h2:1 ≤ h ∧ h ≤ 128):IntKind.wrap .i64 (w * h)=w * h ∧ 1 ≤ w * h ∧ w * h ≤ 16384:=by
  have e1:w * h ≤ 128 * 128:=Int.mul_le_mul h1.2 h2.2 (by omega) (by omega)
  have e2:1 * 1 ≤ w * h:=Int.mul_le_mul h1.1 h2.1 (by omega) (by omega)
  exact ⟨wrap_small (by omega) (by omega),by omega,by omega⟩
theorem newPost_fail {X:Mem} {o:Option Wd} (h:o=none):NewPost X o (some (.tup [.nilp,.int .i64 1],X)):=by
  subst h
  exact ⟨X.heap,none,by rw [escMin_none]; rfl,Keep.refl _ _⟩
theorem newW_bad {w h:Int} {tiles:List Int} {bl:List Bld} (hd:dimsOk w h tiles.length=false):newW w h tiles bl=none:=by
  unfold newW; rw [hd]; rfl
theorem r_grid_New {X:Mem} {tv bv:SV} {tiles:List Int} {bl:List Bld} (ht:LiesD byteF (Hm X.heap) tv tiles) (hb:LiesD bldF (Hm X.heap) bv bl) (hbl:bl.length ≤ two48) (hw:X.Wf) (hhb:X.hb ≤ X.hl) (w hh:Int) :
    NewPost X (newW w hh tiles bl) (RF tb f_grid_New [.agg [.int .i64 w,.int .i64 hh,tv,bv]] X):=by
  rw [RF_go t_grid_New _ _ rfl,push_hp]
  generalize hH:X.heap=H at *
  have hHl:X.hl=H.length:=by rw [← hH]; rfl
  cases hd:dimsOk w hh tiles.length with
  | false =>
    have hno:∀ z,z=some (SV.tup [.nilp,.int .i64 1],X) → NewPost X (newW w hh tiles bl) z:=fun z hz=>by rw [hz]; exact newPost_fail (newW_bad hd)
    simp (maxDischargeDepth:=8) only [go_sem,s_grid_New,hw,hH,ht.cell,hb.cell,ht.len,hb.len]
    repeat' ((first | rw [KG_bool] | rw [KC_bool]); split <;> rename_i h <;> (try simp only [Bool.not_eq_true,Bool.not_not,Bool.not_eq_eq_eq_not,Bool.not_true,Bool.not_false] at h) <;> simp (maxDischargeDepth:=8) only [go_sem,h,hw,hH,ht.cell,hb.cell,ht.len])
    all_goals first | exact hno _ rfl | skip
    exfalso
    rename_i h1 h2 h3 h4
    simp only [decide_eq_false_iff_not,bne_eq_false_iff_eq] at h1 h2 h3 h4 h
    rw [(wrap_mul ⟨by omega,by omega⟩ ⟨by omega,by omega⟩).1] at h
    have:dimsOk w hh tiles.length=true:=by simp only [dimsOk,Bool.and_eq_true,decide_eq_true_eq]; omega
    rw [this] at hd
    cases hd
  | true =>
    simp only [dimsOk,Bool.and_eq_true,decide_eq_true_eq] at hd
    obtain ⟨⟨⟨⟨d1,d2⟩,d3⟩,d4⟩,d5⟩:=hd
    have wm:=wrap_mul ⟨d1,d2⟩ ⟨d3,d4⟩
    simp (maxDischargeDepth:=8) only [go_sem,s_grid_New,hw,hH,ht.cell,hb.cell,ht.len,hb.len,show decide (w < 1)=false from decide_eq_false (by omega),show decide (w > 128)=false from decide_eq_false (by omega),show decide (hh < 1)=false from decide_eq_false (by omega),show decide (hh > 128)=false from decide_eq_false (by omega),show ((tiles.length:Int) != IntKind.wrap .i64 (w * hh))=false from by rw [wm.1,d5]; simp]
    refine KL_ind (R:=fun z=>NewPost X (newW w hh tiles bl) (fin [.t 2,.t 3] X z)) (α:=Nat) (fun i=>tiles.length - i) (fun i=>[(1,.ptr (.st X.dep 0) 0),(40,tv),(41,.i tiles.length),(42,.int .i64 (i:Int))]) (fun _=>(X.hp H).fr [.cells true [.int .i64 w,.int .i64 hh,tv,bv]] none) (fun i=>i ≤ tiles.length ∧ (tiles.take i).all (fun t=>decide (t < 4))=true) ?_ 0 ⟨Nat.zero_le _,rfl⟩
    rintro i ⟨hi,hI⟩ ih
    simp (maxDischargeDepth:=8) only [go_sem,hw,ht.lv]
    by_cases hlt:i < tiles.length
    · have hel:tiles[i]? = some tiles[i]:=List.getElem?_eq_getElem hlt
      generalize tiles[i]=x at hel
      have hI':(tiles.take (i + 1)).all (fun t=>decide (t < 4))=decide (x < 4):=by
        rw [List.take_add_one,hel,List.all_append,hI]; simp
      simp (maxDischargeDepth:=8) only [go_sem,show decide ((i:Int) < (tiles.length:Int))=true from decide_eq_true (by omega),hw,ht.iaddrB (show (0:Int) ≤ (i:Int) by omega) (show (i:Int) < (tiles.length:Int) by omega),ht.loadB hel,wrap_succ (show i ≤ 4611686018427387903 by omega)]
      cases hx:decide (x ≥ 4) with
      | true =>
        simp (maxDischargeDepth:=8) only [go_sem,hw,hH]
        refine newPost_fail ?_
        unfold newW
        rw [if_neg]
        intro hc
        simp only [Bool.and_eq_true] at hc
        have:=List.all_eq_true.1 hc.2 x (List.mem_of_getElem? hel)
        simp at hx this
        omega
      | false =>
        simp (maxDischargeDepth:=8) only [go_sem,hw,wrap_succ (show i ≤ 4611686018427387903 by omega)]
        rw [KL_keep _ _ _ (by simp (maxDischargeDepth:=8) only [go_sem,ht.lv])]
        simp (maxDischargeDepth:=8) only [go_sem]
        exact ih (i + 1) ⟨by omega,by rw [hI']; simp at hx ⊢; omega⟩ (by omega)
    · obtain rfl:i=tiles.length:=by omega
      rw [List.take_length] at hI
      simp (maxDischargeDepth:=8) only [go_sem,show decide ((tiles.length:Int) < (tiles.length:Int))=false from decide_eq_false (by omega),hw,ht.cell]
      obtain ⟨v',H1,hc,c1,c2,c3⟩:=r_slices_Clone_byte_byte (X:=((X.hp H).fr [.cells true [.int .i64 w,.int .i64 hh,tv,bv]] none).shut) ht (by simp only [two48]; omega) (shut_wf _) (Nat.le_refl _)
      have s1:=c1.isSl byteF_even
      change Keep [] H H1 at c2
      change ∀ i ∈ slFp v',H.length ≤ i at c3
      simp (maxDischargeDepth:=8) only [go_sem,hc,s1.c,s1.k,s1.o,s1.l,hb.len,List.length_append,List.append_assoc]
      have l1:H.length ≤ H1.length:=c2.1
      obtain ⟨H2,hH2⟩:∃ H2,H1 ++ [(0,SBk.map []),(0,SBk.map []),(0,SBk.cells true [.int .i64 w,.int .i64 hh,v',.map (.hp H1.length 0),.map (.hp (H1.length + 1) 0),.nils])]=H2:=⟨_,rfl⟩
      have l2:H2.length=H1.length + 3:=by rw [← hH2,List.length_append]; rfl
      rw [hH2,KL_keep _ _ _ (by simp (maxDischargeDepth:=8) only [go_sem,hb.lv])]
      simp (maxDischargeDepth:=8) only [go_sem]
      have W0:WorldOwn H2 ⟨H1.length + 2,H1.length,H1.length + 1,v',.nils,[]⟩ ⟨w,hh,tiles,[],[]⟩:=by
        subst hH2
        refine ⟨⟨?_,?_,?_,?_,?_,?_,⟨d1,d2⟩,⟨d3,d4⟩,d5,?_,List.nodup_nil⟩,Own.nil _⟩
        · exact hget_newi 2 0 _
        · exact hget_new0 0 _
        · exact hget_newi 1 0 _
        · exact (c1.lies byteF_even).keep (Keep.app [] _ _) (by simp)
        · exact LiesD.nil _ _
        · intro a b; rfl
        · have hf:=c1.fp
          simp only [WP.fp,slFp,List.append_nil,List.cons_append,List.nil_append,List.nodup_cons,List.mem_cons,not_or]
          refine ⟨⟨by omega,by omega,fun h=>?_⟩,⟨by omega,fun h=>?_⟩,fun h=>?_,slFp_nodup _⟩ <;> have:=hf _ h <;> omega
      have K0:Keep [] H H2:=c2.trans (by rw [← hH2]; exact Keep.app _ _ _)
      have F0:∀ i ∈ WP.fp ⟨H1.length + 2,H1.length,H1.length + 1,v',.nils,[]⟩,H.length ≤ i:=by
        intro i hi
        simp only [WP.fp,slFp,List.append_nil,List.cons_append,List.nil_append,List.mem_cons] at hi
        rcases hi with rfl | rfl | rfl | hi <;> first | omega | exact c3 i hi
      have hnew:newW w hh tiles bl=(newGo ⟨w,hh,tiles,[],[]⟩ 0 bl).map fun W=>{ W with dirty:=[] }:=by
        unfold newW
        rw [if_pos]
        simp only [dimsOk,Bool.and_eq_true,decide_eq_true_eq]
        exact ⟨⟨⟨⟨⟨d1,d2⟩,d3⟩,d4⟩,d5⟩,hI⟩
      rw [hnew]
      refine KL_ind (R:=fun z=>NewPost X ((newGo ⟨w,hh,tiles,[],[]⟩ 0 bl).map fun W=>{ W with dirty:=[] }) (fin [.t 2,.t 3] X z)) (α:=Nat × Hp × WP × Wd × Int × Option Nat) (fun a=>bl.length - a.1)
        (fun a=>[(6,.ptr (.hp a.2.2.1.k 0) 0),(7,.int .i64 a.2.2.2.2.1),(61,bv),(62,.i bl.length),(63,.int .i64 (a.1:Int))])
        (fun a=>(X.hp a.2.1).fr [.cells true [.int .i64 w,.int .i64 hh,tv,bv]] a.2.2.2.2.2)
        (fun a=>a.1 ≤ bl.length ∧ WorldOwn a.2.1 a.2.2.1 a.2.2.2.1 ∧ Keep [] H a.2.1 ∧ (∀ i ∈ a.2.2.1.fp,H.length ≤ i) ∧ newGo ⟨w,hh,tiles,[],[]⟩ 0 bl=newGo a.2.2.2.1 a.2.2.2.2.1 (bl.drop a.1) ∧ a.2.2.2.1.dirty.length=a.2.2.2.1.bl.length ∧ a.2.2.2.1.bl.length ≤ 256 ∧ (a.2.2.2.2.2=none ∨ ∃ k,a.2.2.2.2.2=some k ∧ H.length ≤ k))
        ?_ (0,H2,⟨H1.length + 2,H1.length,H1.length + 1,v',.nils,[]⟩,⟨w,hh,tiles,[],[]⟩,0,none) ⟨Nat.zero_le _,W0,K0,F0,rfl,rfl,Nat.zero_le _,.inl rfl⟩
      clear ih
      rintro ⟨i,Hi,p,W,last,e⟩ ⟨hi',hO,hK,hF,hgo,hdl,hbl',he⟩ ih
      dsimp only at hi' hO hK hF hgo hdl hbl' he ⊢
      have hsub:=hK.sub
      simp (maxDischargeDepth:=8) only [go_sem,hw,hb.lv]
      by_cases hlt:i < bl.length
      · have hel:bl[i]? = some bl[i]:=List.getElem?_eq_getElem hlt
        have hdr:bl.drop i=bl[i] :: bl.drop (i + 1):=List.drop_eq_getElem_cons hlt
        generalize bl[i]=b at hel hdr
        obtain ⟨id,bx,by',bw,bh⟩:=b
        rw [hdr,newGo_cons] at hgo
        simp (maxDischargeDepth:=8) only [go_sem,show decide ((i:Int) < (bl.length:Int))=true from decide_eq_true (by omega),hw,hb.iaddr5 hlt,hb.load5 hel,hsub,hb.lv]
        have gfail:(id ≤ last ∨ W.may (id,bx,by',bw,bh) ≠ 0) → ∀ z:Option (SV × Mem),(∃ H' u,z=some (.tup [.nilp,.int .i64 1],(X.hp H').es (escMin X.esc u)) ∧ Keep [] X.heap H') → NewPost X ((newGo ⟨w,hh,tiles,[],[]⟩ 0 bl).map fun W=>{ W with dirty:=[] }) z:=by
          intro hc z hz
          rw [hgo,if_pos hc]
          exact hz
        have hKX:Keep [] X.heap Hi:=by rw [hH]; exact hK
        cases hx:decide (id ≤ last) with
        | true =>
          simp (maxDischargeDepth:=8) only [go_sem,hw]
          exact gfail (.inl (of_decide_eq_true hx)) _ ⟨_,_,rfl,hKX.back0⟩
        | false =>
          by_cases hm:W.may (id,bx,by',bw,bh)=0
          · obtain ⟨H',u,p',hq,q1,q2,q3,q4,q5⟩:=r_grid_World_Place (X:=(X.hp Hi).fr [.cells true [.int .i64 w,.int .i64 hh,tv,bv],.cells true [.int .i64 id,.int .i64 bx,.int .i64 by',.int .i64 bw,.int .i64 bh]] e) hO (fr_wf (hp_wf hw) _ _) (fun n hn=>by have:=hF n hn; show X.hb ≤ n; omega) (by omega) id bx by' bw bh hm
            change Keep p.fp Hi H' at q2
            change ∀ i ∈ p'.fp,i ∈ p.fp ∨ Hi.length ≤ i at q4
            have hK':Keep [] H H':=hK.trans' q2 (fun n hn hl=>by have:=hF n hn; omega)
            have hF':∀ j ∈ p'.fp,H.length ≤ j:=fun j hj=>by
              rcases q4 j hj with h | h
              · exact hF j h
              · have:=hK.1; omega
            have hpl:W.place (id,bx,by',bw,bh)={ W with bl:=W.bl ++ [(id,bx,by',bw,bh)],dirty:=W.dirty ++ [(bx,by',bw,bh)] }:=if_pos hm
            have hm3:=(may0 hm).2.2.1
            rw [if_neg (by simp at hx; simp [hm]; exact hx)] at hgo
            simp (maxDischargeDepth:=8) only [go_sem,hw,hq,hb.lv,wrap_succ (show i ≤ 4611686018427387903 by simp only [two48] at hbl; omega)]
            rw [KL_keep _ _ _ (by simp (maxDischargeDepth:=8) only [go_sem,hb.lv])]
            simp (maxDischargeDepth:=8) only [go_sem]
            rw [← q3]
            refine ih (i + 1,H',p',W.place (id,bx,by',bw,bh),id,escMin e u) ⟨by dsimp only; omega,q1,hK',hF',hgo,by dsimp only; rw [hpl]; simp [hdl],by dsimp only; rw [hpl]; simp; omega,?_⟩ (by dsimp only; omega)
            dsimp only
            have hpk:H.length ≤ p.k:=hF p.k (by simp [WP.fp])
            rcases he with rfl | ⟨k,rfl,hk⟩ <;> rcases q5 with rfl | rfl
            · exact .inl rfl
            · exact .inr ⟨_,rfl,hpk⟩
            · exact .inr ⟨_,rfl,hk⟩
            · exact .inr ⟨_,rfl,by omega⟩
          · simp (maxDischargeDepth:=8) only [go_sem,hw,r_grid_World_Place_no hO.at_,hm,hb.lv,show (W.may (id,bx,by',bw,bh) != 0)=true from bne_iff_ne.2 hm]
            exact gfail (.inr hm) _ ⟨_,_,rfl,hKX.back0⟩
      · obtain rfl:i=bl.length:=by omega
        have ghd:hget Hi p.k 0=_:=hO.at_.hd
        have hpk:H.length ≤ p.k:=hF p.k (by simp [WP.fp])
        simp (maxDischargeDepth:=8) only [go_sem,show decide ((bl.length:Int) < (bl.length:Int))=false from decide_eq_false (by omega),hw,ghd,show X.hb ≤ p.k by omega,eq_false (show ¬ p.k + 1 ≤ X.hl by omega)]
        rw [hgo,List.drop_length]
        have ap:=WP.apart hO.at_.nd
        refine ⟨_,_,{ p with dv:=.nils },rfl,?_,?_,?_⟩
        · have hs:Keep [p.k] Hi (Hi.set p.k (0,SBk.cells true [.int .i64 W.w,.int .i64 W.h,p.tv,.map (.hp p.kb 0),.map (.hp p.ko 0),.nils])):=Keep.set (by simp) _ _
          refine ⟨⟨?_,hs.get hO.at_.bt (by simp [ap.a]),hs.get hO.at_.ot (by simp [ap.b]),hO.at_.tl.keep hs (fun i hi=>by simpa using (ap.t i hi).1),LiesD.nil _ _,hO.at_.on,hO.at_.w1,hO.at_.h1,hO.at_.len,?_,hO.at_.ond⟩,Own.nil _⟩
          · exact (hget_set_eq (hget_lt ghd)).trans (if_pos rfl)
          · have:=hO.at_.nd
            simp only [WP.fp,slFp,List.append_nil] at this ⊢
            exact (List.nodup_append.1 this).1
        · rw [hH]; exact hK.trans' (Keep.set (S:=[p.k]) (by simp) _ _) (by simp; omega)
        · intro i hi
          rw [hH]
          refine hF i ?_
          simp only [WP.fp,slFp,List.append_nil,List.mem_append] at hi ⊢
          exact .inl hi
theorem _root_.Go.Sh.LiesD.load5i {m:Mem} {v:SV} {l:List Bld} (h:LiesD bldF m v l) {i:Nat} {a:Bld} (hi:l[i]? = some a) {X:Mem} (hX:HpSub m X):X.load (.hp (slN v) (slW v)) (slO v + i * 5) none=some (.int .i64 a.1):=by
  have:=LiesD.load1 bldF_even (h.sub hX) hi (j:=0) (by decide)
  rw [Nat.add_zero] at this
  exact this
theorem _root_.Go.Sh.LiesD.load5r {m:Mem} {v:SV} {l:List Bld} (h:LiesD bldF m v l) {i:Nat} {a:Bld} (hi:l[i]? = some a) {X:Mem} (hX:HpSub m X):X.load (.hp (slN v) (slW v)) (slO v + i * 5 + 1) (some 4)=some (rectR a.2):=by
  have hlt:=(List.getElem?_eq_some_iff.1 hi).1
  have h1:Lies X 5 v l.length (l.flatMap bldF.enc):=h.sub hX
  rw [Nat.add_assoc,h1.loadN (by decide) (by omega)]
  have h2:=flat_at bldF_even hi
  have h3:((l.flatMap bldF.enc).drop (i * 5 + 1)).take 4=(((l.flatMap bldF.enc).drop (i * 5)).take 5).drop 1:=by
    rw [List.drop_take,List.drop_drop]
  rw [h3,show ((l.flatMap bldF.enc).drop (i * 5)).take 5=bldF.enc a from h2]
  rfl
structure QP where
  k:Nat
  tv:SV
  bv:SV
  ev:SV
def QP.fp (p:QP):List Nat:=[p.k] ++ slFp p.tv ++ slFp p.bv ++ slFp p.ev
structure RefAt (m:Mem) (p:QP) (W:Wd) (bl:List Bld):Prop where
  hd:m.get (.hp p.k 0)=some (.cells true [.int .i64 W.w,.int .i64 W.h,p.tv,p.bv,p.ev])
  tl:LiesD byteF m p.tv W.tiles
  bt:LiesD bldF m p.bv bl
  el:LiesD rectF m p.ev W.dirty
  w1:1 ≤ W.w ∧ W.w ≤ 128
  h1:1 ≤ W.h ∧ W.h ≤ 128
  len:(W.tiles.length:Int)=W.w * W.h
  few:bl.length ≤ 256
section
variable {m X:Mem} {p:QP} {W:Wd} {bl:List Bld} (hV:RefAt m p W bl) (hX:HpSub m X)
include hV hX
theorem RefAt.ld (off:Nat) (n:Option Nat):X.load (.hp p.k 0) off n=partv [.int .i64 W.w,.int .i64 W.h,p.tv,p.bv,p.ev] off n:=by rw [load_get,hX _ _ _ hV.hd]
theorem RefAt.sub:RefAt X p W bl:=⟨hX _ _ _ hV.hd,hV.tl.sub hX,hV.bt.sub hX,hV.el.sub hX,hV.w1,hV.h1,hV.len,hV.few⟩
end
theorem r_ref04_All {m:Mem} {p:QP} {W:Wd} {bl:List Bld} (hV:RefAt m p W bl) {X:Mem} (hX:HpSub m X) (hw:X.Wf):RF tb f_ref04_All [.ptr (.hp p.k 0) 0] X=some (rect 0 0 W.w W.h,X):=by
  rw [RF_go t_ref04_All _ _ rfl]
  simp (maxDischargeDepth:=8) only [go_sem,s_ref04_All,hw,hX,hV.ld]
def meetR (a b:Rc):Bool:=meetB a.1 a.2.1 a.2.2.1 a.2.2.2 b.1 b.2.1 b.2.2.1 b.2.2.2
theorem r_ref04_share (X:Mem) (hw:X.Wf) (x y w hh a b c d:Int):RF tb f_ref04_share [rect x y w hh,rect a b c d] X=some (.bool (meetB x y w hh a b c d),X):=by
  rw [RF_go t_ref04_share _ _ rfl]
  simp (maxDischargeDepth:=8) only [go_sem,s_ref04_share,hw,r_ref03_Meet]
def rmayB (b:Bld) (q:Rc):Bool:=bmayB b q && decide (b.2.2.2.1 ≥ 1) && decide (b.2.2.2.2 ≥ 1)
theorem r_ref04_MayBe (X:Mem) (hw:X.Wf) (id x y w hh a b c d:Int):RF tb f_ref04_MayBe [.agg [.int .i64 id,.int .i64 x,.int .i64 y,.int .i64 w,.int .i64 hh],.agg [.int .i64 a,.int .i64 b,.int .i64 c,.int .i64 d]] X=some (.bool (rmayB (id,x,y,w,hh) (a,b,c,d)),X):=by
  rw [RF_go t_ref04_MayBe _ _ rfl]
  simp (maxDischargeDepth:=8) only [go_sem,s_ref04_MayBe,hw,r_ref03_Within]
  repeat' ((first | rw [KG_bool] | rw [KC_bool]); split <;> rename_i h <;> (try simp only [Bool.not_eq_true,Bool.not_not,Bool.not_eq_eq_eq_not,Bool.not_true,Bool.not_false] at h) <;> simp (maxDischargeDepth:=8) only [go_sem,h,hw,r_ref03_Within])
  all_goals simp_all [rmayB,bmayB]
  all_goals first | done | (intros; omega) | (rw [Bool.eq_iff_iff]; simp; intros; omega)
theorem r_ref04_Terrain {m:Mem} {p:QP} {W:Wd} {bl:List Bld} (hV:RefAt m p W bl) (hg:W.Good) {X:Mem} (hX:HpSub m X) (hw:X.Wf) (a b:Int):RF tb f_ref04_Terrain [.ptr (.hp p.k 0) 0,.agg [.int .i64 a,.int .i64 b]] X=some (.tup [.int .i64 (if W.has a b then W.tile a b else 0),.bool (W.has a b)],X):=by
  rw [RF_go t_ref04_Terrain _ _ rfl]
  simp (maxDischargeDepth:=8) only [go_sem,s_ref04_Terrain,hw,hX,hV.ld,r_ref04_All hV,r_ref03_Has]
  cases hh:W.has a b with
  | false =>
    have hh':hasB 0 0 W.w W.h a b=false:=hh
    simp (maxDischargeDepth:=8) only [go_sem,hw,hh']
  | true =>
    have hh':hasB 0 0 W.w W.h a b=true:=hh
    have h1:=idx_lt' hV.w1 hV.h1 hV.len hh
    have hlt:(b * W.w + a).toNat < W.tiles.length:=by omega
    have hel:W.tiles[(b * W.w + a).toNat]? = some W.tiles[(b * W.w + a).toNat]:=List.getElem?_eq_getElem hlt
    have ht:W.tile a b=W.tiles[(b * W.w + a).toNat]:=by simp only [Wd.tile,hel,Option.getD_some]
    have h3:=tile_in hg a b
    rw [← ht] at hel
    simp (maxDischargeDepth:=8) only [go_sem,hw,hh',hX,hV.ld,wrap_small (x:=b * W.w) (by omega) (by omega),wrap_small (x:=b * W.w + a) (by omega) (by omega),hV.tl.iaddrB h1.2.2.2.2.1 h1.2.2.2.2.2.1,hV.tl.loadB hel,wrap_u8i h3.1 (show W.tile a b ≤ 255 by omega)]
theorem atL_cons (b:Bld) (l:List Bld) (x y:Int):atL (b :: l) x y=if hasR b.2 x y then some b.1 else atL l x y:=by
  unfold atL
  rw [List.find?_cons]
  cases hasR b.2 x y <;> rfl
theorem r_ref04_At {m:Mem} {p:QP} {W:Wd} {bl:List Bld} (hV:RefAt m p W bl) {X:Mem} (hX:HpSub m X) (hw:X.Wf) (a b:Int):RF tb f_ref04_At [.ptr (.hp p.k 0) 0,.agg [.int .i64 a,.int .i64 b]] X=some (.tup [.int .i64 ((atL bl a b).getD 0),.bool (atL bl a b).isSome],X):=by
  rw [RF_go t_ref04_At _ _ rfl]
  have few:=hV.few
  simp (maxDischargeDepth:=8) only [go_sem,s_ref04_At,hw]
  rw [KL_keep _ _ _ (by simp (maxDischargeDepth:=8) only [go_sem])]
  simp (maxDischargeDepth:=8) only [go_sem]
  refine KL_indE (α:=Nat) (fun i=>bl.length - i) (fun i=>[(0,.ptr (.hp p.k 0) 0),(3,.ptr (.st X.dep 0) 0),(6,.int .i64 (i:Int))]) (fun _=>X.fr [.cells true [.int .i64 a,.int .i64 b]] none) (fun i=>i ≤ bl.length ∧ atL bl a b=atL (bl.drop i) a b) ?_ 0 ⟨Nat.zero_le _,rfl⟩
  rintro i ⟨hi,hI⟩ ih
  simp (maxDischargeDepth:=8) only [go_sem,hw,hX,hV.ld,hV.bt.len]
  by_cases hlt:i < bl.length
  · have hel:bl[i]? = some bl[i]:=List.getElem?_eq_getElem hlt
    have hdr:bl.drop i=bl[i] :: bl.drop (i + 1):=List.drop_eq_getElem_cons hlt
    generalize bl[i]=q at hel hdr
    rw [hdr,atL_cons] at hI
    obtain ⟨id,bx,by',bw,bh⟩:=q
    simp (maxDischargeDepth:=8) only [go_sem,show decide ((i:Int) < (bl.length:Int))=true from decide_eq_true (by omega),hw,hX,hV.ld,hV.bt.iaddr5 hlt,hV.bt.load5r hel,r_ref03_Has]
    cases hh:hasB bx by' bw bh a b with
    | true =>
      have hI:=hI.trans (if_pos hh)
      simp (maxDischargeDepth:=8) only [go_sem,hw,hX,hV.ld,hV.bt.iaddr5 hlt,hV.bt.load5i hel,hI]
    | false =>
      have hI:=hI.trans (if_neg (by unfold hasR; simp [hh]))
      simp (maxDischargeDepth:=8) only [go_sem,hw,wrap_succ (show i ≤ 4611686018427387903 by omega)]
      rw [KL_keep _ _ _ (by simp (maxDischargeDepth:=8) only [go_sem])]
      simp (maxDischargeDepth:=8) only [go_sem]
      exact ih (i + 1) ⟨by omega,hI⟩ (by omega)
  · obtain rfl:i=bl.length:=by omega
    rw [List.drop_length] at hI
    rw [hI]
    simp (maxDischargeDepth:=8) only [go_sem,show decide ((bl.length:Int) < (bl.length:Int))=false from decide_eq_false (by omega),hw]
    rfl
def chkGo (q:Rc) (pre:List Bld):List Bld → Bool
  | []=>true
  | b :: r=>rmayB b q && pre.all (fun a=>decide (a.1 < b.1) && !meetR a.2 b.2) && chkGo q (pre ++ [b]) r
theorem chkGo_cons (q:Rc) (pre:List Bld) (b:Bld) (r:List Bld):chkGo q pre (b :: r)=(rmayB b q && pre.all (fun a=>decide (a.1 < b.1) && !meetR a.2 b.2) && chkGo q (pre ++ [b]) r):=rfl
def chkB (w h:Int) (tiles:List Int) (bl:List Bld):Bool:=dimsOk w h tiles.length && decide (bl.length ≤ 256) && tiles.all (fun t=>decide (t < 4)) && chkGo (0,0,w,h) [] bl
def okI (b:Bool):Int:=if b then 0 else 1
theorem r_ref04_Check {m:Mem} {tv bv:SV} {tiles:List Int} {bl:List Bld} (ht:LiesD byteF m tv tiles) (hg:∀ t ∈ tiles,0 ≤ t ∧ t ≤ 255) (hb:LiesD bldF m bv bl) {X:Mem} (hX:HpSub m X) (hw:X.Wf) (w hh:Int) :
    RF tb f_ref04_Check [.agg [.int .i64 w,.int .i64 hh,tv,bv]] X=some (.int .i64 (okI (chkB w hh tiles bl)),X):=by
  rw [RF_go t_ref04_Check _ _ rfl]
  cases hd:dimsOk w hh tiles.length && decide (bl.length ≤ 256) with
  | false =>
    have hno:chkB w hh tiles bl=false:=by unfold chkB; rw [hd]; rfl
    rw [hno]
    simp (maxDischargeDepth:=8) only [go_sem,s_ref04_Check,hw,hX,ht.cell,hb.cell,ht.len,hb.len]
    repeat' ((first | rw [KG_bool] | rw [KC_bool]); split <;> rename_i h <;> (try simp only [Bool.not_eq_true,Bool.not_not,Bool.not_eq_eq_eq_not,Bool.not_true,Bool.not_false] at h) <;> simp (maxDischargeDepth:=8) only [go_sem,h,hw,hX,ht.cell,hb.cell,ht.len,hb.len])
    all_goals first | rfl | skip
    exfalso
    rename_i h1 h2 h3 h4 h5
    simp only [decide_eq_false_iff_not,bne_eq_false_iff_eq] at h1 h2 h3 h4 h5 h
    rw [(wrap_mul ⟨by omega,by omega⟩ ⟨by omega,by omega⟩).1] at h5
    have:(dimsOk w hh tiles.length && decide (bl.length ≤ 256))=true:=by simp only [dimsOk,Bool.and_eq_true,decide_eq_true_eq]; omega
    rw [this] at hd
    cases hd
  | true =>
    have hd':=hd
    simp only [dimsOk,Bool.and_eq_true,decide_eq_true_eq] at hd
    obtain ⟨⟨⟨⟨⟨d1,d2⟩,d3⟩,d4⟩,d5⟩,d6⟩:=hd
    have wm:=wrap_mul ⟨d1,d2⟩ ⟨d3,d4⟩
    simp (maxDischargeDepth:=8) only [go_sem,s_ref04_Check,hw,hX,ht.cell,hb.cell,ht.len,hb.len,show decide (w < 1)=false from decide_eq_false (by omega),show decide (w > 128)=false from decide_eq_false (by omega),show decide (hh < 1)=false from decide_eq_false (by omega),show decide (hh > 128)=false from decide_eq_false (by omega),show ((tiles.length:Int) != IntKind.wrap .i64 (w * hh))=false from by rw [wm.1,d5]; simp,show decide ((bl.length:Int) > 256)=false from decide_eq_false (by omega)]
    rw [KL_keep _ _ _ (by simp (maxDischargeDepth:=8) only [go_sem])]
    simp (maxDischargeDepth:=8) only [go_sem]
    refine KL_indE (α:=Nat) (fun i=>tiles.length - i) (fun i=>[(1,.ptr (.st X.dep 0) 0),(3,.int .i64 (i:Int))]) (fun _=>X.fr [.cells true [.int .i64 w,.int .i64 hh,tv,bv]] none) (fun i=>i ≤ tiles.length ∧ (tiles.take i).all (fun t=>decide (t < 4))=true) ?_ 0 ⟨Nat.zero_le _,rfl⟩
    rintro i ⟨hi,hI⟩ ih
    simp (maxDischargeDepth:=8) only [go_sem,hw,ht.len]
    by_cases hlt:i < tiles.length
    · have hel:tiles[i]? = some tiles[i]:=List.getElem?_eq_getElem hlt
      have hg':=hg _ (List.getElem_mem hlt)
      generalize tiles[i]=x at hel hg'
      have hI':(tiles.take (i + 1)).all (fun t=>decide (t < 4))=decide (x < 4):=by
        rw [List.take_add_one,hel,List.all_append,hI]; simp
      simp (maxDischargeDepth:=8) only [go_sem,show decide ((i:Int) < (tiles.length:Int))=true from decide_eq_true (by omega),hw,hX,ht.iaddrB (show (0:Int) ≤ (i:Int) by omega) (show (i:Int) < (tiles.length:Int) by omega),ht.loadB hel,wrap_u8i hg'.1 hg'.2]
      cases hx:decide (x ≥ 4) with
      | true =>
        simp (maxDischargeDepth:=8) only [go_sem,hw]
        have:chkB w hh tiles bl=false:=by
          unfold chkB
          cases hc:tiles.all (fun t=>decide (t < 4)) with
          | false=>simp
          | true =>
            have:=List.all_eq_true.1 hc x (List.mem_of_getElem? hel)
            simp at hx this
            omega
        rw [this]; rfl
      | false =>
        simp (maxDischargeDepth:=8) only [go_sem,hw,wrap_succ (show i ≤ 4611686018427387903 by omega)]
        rw [KL_keep _ _ _ (by simp (maxDischargeDepth:=8) only [go_sem])]
        simp (maxDischargeDepth:=8) only [go_sem]
        exact ih (i + 1) ⟨by omega,by rw [hI']; simp at hx ⊢; omega⟩ (by omega)
    · obtain rfl:i=tiles.length:=by omega
      clear ih
      rw [List.take_length] at hI
      have hchk:chkB w hh tiles bl=chkGo (0,0,w,hh) [] bl:=by unfold chkB; rw [hd',hI]; rfl
      rw [hchk]
      simp (maxDischargeDepth:=8) only [go_sem,show decide ((tiles.length:Int) < (tiles.length:Int))=false from decide_eq_false (by omega),hw]
      rw [KL_keep _ _ _ (by simp (maxDischargeDepth:=8) only [go_sem])]
      simp (maxDischargeDepth:=8) only [go_sem]
      refine KL_indE (α:=Nat) (fun i=>bl.length - i) (fun i=>[(1,.ptr (.st X.dep 0) 0),(4,.int .i64 (i:Int))]) (fun _=>X.fr [.cells true [.int .i64 w,.int .i64 hh,tv,bv]] none) (fun i=>i ≤ bl.length ∧ chkGo (0,0,w,hh) [] bl=chkGo (0,0,w,hh) (bl.take i) (bl.drop i)) ?_ 0 ⟨Nat.zero_le _,rfl⟩
      rintro i ⟨hi,hI⟩ ih
      simp (maxDischargeDepth:=8) only [go_sem,hw,hb.len]
      by_cases hlt:i < bl.length
      · have hel:bl[i]? = some bl[i]:=List.getElem?_eq_getElem hlt
        have hdr:bl.drop i=bl[i] :: bl.drop (i + 1):=List.drop_eq_getElem_cons hlt
        generalize bl[i]=b at hel hdr
        rw [hdr,chkGo_cons] at hI
        have htk:bl.take i ++ [b]=bl.take (i + 1):=by rw [List.take_add_one,hel]; rfl
        obtain ⟨id,bx,by',bw,bh⟩:=b
        simp (maxDischargeDepth:=8) only [go_sem,show decide ((i:Int) < (bl.length:Int))=true from decide_eq_true (by omega),hw,hX,hb.len,hb.iaddr5 hlt,hb.load5 hel,r_ref04_MayBe]
        cases hm:rmayB (id,bx,by',bw,bh) (0,0,w,hh) with
        | false =>
          rw [hm] at hI
          have hI:=hI.trans (by rfl:_=false)
          simp (maxDischargeDepth:=8) only [go_sem,hw,hI]
          rfl
        | true =>
          rw [hm,Bool.true_and] at hI
          simp (maxDischargeDepth:=8) only [go_sem,hw]
          rw [KL_keep _ _ _ (by simp (maxDischargeDepth:=8) only [go_sem])]
          simp (maxDischargeDepth:=8) only [go_sem]
          refine KL_indE (α:=Nat) (fun k=>i - k) (fun k=>[(1,.ptr (.st X.dep 0) 0),(4,.int .i64 (i:Int)),(5,.int .i64 (k:Int))]) (fun _=>X.fr [.cells true [.int .i64 w,.int .i64 hh,tv,bv]] none) (fun k=>k ≤ i ∧ ((bl.take k).all (fun a=>decide (a.1 < id) && !meetR a.2 (bx,by',bw,bh)))=true) ?_ 0 ⟨Nat.zero_le _,rfl⟩
          rintro k ⟨hk,hK⟩ ih'
          simp (maxDischargeDepth:=8) only [go_sem,hw]
          by_cases hlt':k < i
          · have hlk:k < bl.length:=by omega
            have hel':bl[k]? = some bl[k]:=List.getElem?_eq_getElem hlk
            generalize bl[k]=a at hel'
            have hK':(bl.take (k + 1)).all (fun a=>decide (a.1 < id) && !meetR a.2 (bx,by',bw,bh))=(decide (a.1 < id) && !meetR a.2 (bx,by',bw,bh)):=by
              rw [List.take_add_one,hel',List.all_append,hK]; simp
            have hbad:(decide (a.1 < id) && !meetR a.2 (bx,by',bw,bh))=false → chkGo (0,0,w,hh) [] bl=false:=by
              intro hc
              rw [hI]
              have:(bl.take i).all (fun a=>decide (a.1 < id) && !meetR a.2 (bx,by',bw,bh))=false:=by
                rw [List.all_eq_false]
                exact ⟨a,List.mem_of_getElem? (i:=k) (by rw [List.getElem?_take,if_pos hlt']; exact hel'),by simpa using hc⟩
              rw [this]; rfl
            obtain ⟨jd,ax,ay,aw,ah⟩:=a
            simp (maxDischargeDepth:=8) only [go_sem,show decide ((k:Int) < (i:Int))=true from decide_eq_true (by omega),hw,hX,hb.len,hb.iaddr5 hlt,hb.iaddr5 hlk,hb.load5i hel,hb.load5i hel',hb.load5r hel,hb.load5r hel',r_ref04_share]
            cases hx:decide (jd ≥ id) with
            | true =>
              simp (maxDischargeDepth:=8) only [go_sem,hw,hbad (by simp at hx ⊢; omega)]
              rfl
            | false =>
              simp (maxDischargeDepth:=8) only [go_sem,hw,hX,hb.len,hb.iaddr5 hlt,hb.iaddr5 hlk,hb.load5r hel,hb.load5r hel',r_ref04_share]
              cases hq:meetB ax ay aw ah bx by' bw bh with
              | true =>
                simp (maxDischargeDepth:=8) only [go_sem,hw,hbad (by simp [meetR,hq])]
                rfl
              | false =>
                simp (maxDischargeDepth:=8) only [go_sem,hw,wrap_succ (show k ≤ 4611686018427387903 by omega)]
                rw [KL_keep _ _ _ (by simp (maxDischargeDepth:=8) only [go_sem])]
                simp (maxDischargeDepth:=8) only [go_sem]
                exact ih' (k + 1) ⟨by omega,by rw [hK']; simp [meetR,hq]; simp at hx; omega⟩ (by omega)
          · obtain rfl:k=i:=by omega
            rw [hK,Bool.true_and,htk] at hI
            simp (maxDischargeDepth:=8) only [go_sem,show decide ((k:Int) < (k:Int))=false from decide_eq_false (by omega),hw,wrap_succ (show k ≤ 4611686018427387903 by omega)]
            rw [KL_keep _ _ _ (by simp (maxDischargeDepth:=8) only [go_sem])]
            simp (maxDischargeDepth:=8) only [go_sem]
            exact ih (k + 1) ⟨by omega,hI⟩ (by omega)
      · obtain rfl:i=bl.length:=by omega
        rw [List.drop_length] at hI
        simp (maxDischargeDepth:=8) only [go_sem,show decide ((bl.length:Int) < (bl.length:Int))=false from decide_eq_false (by omega),hw,hI]
        rfl
def capL:SV → Bool
  | .sl _ _ len (some c) _=>decide (len ≤ c)
  | _=>true
theorem app_capL {esz bytes:Nat} {z:List SV} {aw:Bk → Bool} {x y v:SV} {m m':Mem} (h:appV esz bytes z aw x y m=some (v,m')) (hx:capL x=true):capL v=true:=by
  unfold appV at h
  split at h
  · rename_i sl n h1 h2
    rw [Option.bind_eq_some_iff] at h
    obtain ⟨new,_,h⟩:=h
    split at h
    · cases h; exact hx
    · split at h
      · split at h
        · rw [Option.map_eq_some_iff] at h
          obtain ⟨q,_,h⟩:=h
          cases h; rfl
        · rw [Option.map_eq_some_iff] at h
          obtain ⟨q,_,h⟩:=h
          cases h; rfl
        · rw [Option.bind_eq_some_iff] at h
          obtain ⟨old,_,h⟩:=h
          split at h
          · split at h
            · rw [Option.map_eq_some_iff] at h
              obtain ⟨q,_,h⟩:=h
              cases h; rfl
            · split at h
              · split at h
                · cases h; rfl
                · cases h
              · cases h
          · cases h
        · cases h
      · cases h
  · cases h
structure RefOwn (H:Hp) (p:QP) (W:Wd) (bl:List Bld):Prop where
  at_:RefAt (Hm H) p W bl
  ob:Own bldF H p.bv bl
  oe:Own rectF H p.ev W.dirty
  nd:p.fp.Nodup
  cp:capL p.bv=true
theorem hxs_byte (l:List Int):SV.hxs (l.flatMap byteF.enc)=0:=by induction l with | nil=>rfl | cons a l ih=>simp only [List.flatMap_cons]; exact ih
theorem hxs_bld (l:List Bld):SV.hxs (l.flatMap bldF.enc)=0:=by induction l with | nil=>rfl | cons a l ih=>simp only [List.flatMap_cons]; exact ih
theorem hxs_rect (l:List Rc):SV.hxs (l.flatMap rectF.enc)=0:=by induction l with | nil=>rfl | cons a l ih=>simp only [List.flatMap_cons]; exact ih
theorem r_ref04_New_no {m:Mem} {tv bv:SV} {tiles:List Int} {bl:List Bld} (ht:LiesD byteF m tv tiles) (hg:∀ t ∈ tiles,0 ≤ t ∧ t ≤ 255) (hb:LiesD bldF m bv bl) {X:Mem} (hX:HpSub m X) (hw:X.Wf) (w hh:Int) (hc:chkB w hh tiles bl=false) :
    RF tb f_ref04_New [.agg [.int .i64 w,.int .i64 hh,tv,bv]] X=some (.tup [.nilp,.int .i64 1],X):=by
  rw [RF_go t_ref04_New _ _ rfl]
  simp (maxDischargeDepth:=8) only [go_sem,s_ref04_New,hw,hX,ht.cell,hb.cell,r_ref04_Check ht hg hb,hc,okI,show ((1:Int) != 0)=true from rfl]
theorem chk_in {w hh:Int} {tiles:List Int} {bl:List Bld} (h:chkB w hh tiles bl=true):(1 ≤ w ∧ w ≤ 128) ∧ (1 ≤ hh ∧ hh ≤ 128) ∧ (tiles.length:Int)=w * hh ∧ bl.length ≤ 256 ∧ (∀ t ∈ tiles,t < 4) ∧ chkGo (0,0,w,hh) [] bl=true:=by
  simp only [chkB,dimsOk,Bool.and_eq_true,decide_eq_true_eq,List.all_eq_true] at h
  obtain ⟨⟨⟨⟨⟨⟨⟨h1,h2⟩,h3⟩,h4⟩,h5⟩,h6⟩,h7⟩,h8⟩:=h
  exact ⟨⟨h1,h2⟩,⟨h3,h4⟩,h5,h6,h7,h8⟩
theorem r_ref04_New {X:Mem} {tv bv:SV} {tiles:List Int} {bl:List Bld} (ht:LiesD byteF (Hm X.heap) tv tiles) (hg:∀ t ∈ tiles,0 ≤ t ∧ t ≤ 255) (hb:LiesD bldF (Hm X.heap) bv bl) (hw:X.Wf) (hhb:X.hb ≤ X.hl) (w hh:Int) (hc:chkB w hh tiles bl=true) :
    ∃ H' u p,RF tb f_ref04_New [.agg [.int .i64 w,.int .i64 hh,tv,bv]] X=some (.tup [.ptr (.hp p.k 0) 0,.int .i64 0],(X.hp H').es (escMin X.esc u)) ∧ RefOwn H' p ⟨w,hh,tiles,bl,[]⟩ bl ∧ Keep [] X.heap H' ∧ ∀ i ∈ p.fp,X.heap.length ≤ i:=by
  rw [RF_go t_ref04_New _ _ rfl,push_hp]
  generalize hH:X.heap=H at *
  have hHl:X.hl=H.length:=by rw [← hH]; rfl
  obtain ⟨c1,c2,c3,c4,c5,c6⟩:=chk_in hc
  have wm:=wrap_mul c1 c2
  obtain ⟨H1,hH1⟩:∃ H1,H ++ [(0,SBk.cells true [.int .i64 w,.int .i64 hh,.nils,.nils,.nils])]=H1:=⟨_,rfl⟩
  have g1:hget H1 H.length 0=some (.cells true [.int .i64 w,.int .i64 hh,.nils,.nils,.nils]):=by rw [← hH1,hget_new0]; rfl
  have k1:Keep [] H H1:=by rw [← hH1]; exact Keep.app _ _ _
  have l1:H1.length=H.length + 1:=by rw [← hH1,List.length_append]; rfl
  obtain ⟨v1,H2,ha1,o1,o2,o3,⟨o4,o5,o6⟩,o7⟩:=app_own byteF_even (by decide) byteF_ok hxs_byte (Own.nil H1) (ht.keep k1 (by simp)) (bytes:=1) (by simp only [List.length_nil,two48]; omega) (by simp only [List.length_nil,two48]; omega) X (by simp [slFp])
  have ha1':=ha1 [.int .u8 0] rfl (fun _=>true) rfl
  change ∀ f e,appV 1 1 _ _ _ _ _=_ at ha1'
  have g2:=(o2.weak (T:=[]) (by simp [slFp])).get g1 (by simp)
  obtain ⟨H3,hH3⟩:∃ H3,H2.set H.length (0,SBk.cells true [.int .i64 w,.int .i64 hh,v1,.nils,.nils])=H3:=⟨_,rfl⟩
  have k3:Keep [H.length] H2 H3:=by rw [← hH3]; exact Keep.set (by simp) _ _
  have g3:hget H3 H.length 0=some (.cells true [.int .i64 w,.int .i64 hh,v1,.nils,.nils]):=by rw [← hH3]; exact (hget_set_eq (hget_lt g2)).trans (if_pos rfl)
  have kH3:Keep [] H H3:=(k1.trans (o2.weak (by simp [slFp]))).trans' k3 (by simp)
  obtain ⟨v2,H4,ha2,q1,q2,q3,⟨q4,q5,q6⟩,q7⟩:=app_own bldF_even (by decide) bldF_ok hxs_bld (Own.nil H3) (hb.keep kH3 (by simp)) (bytes:=40) (by simp only [List.length_nil,two48]; omega) (by simp only [List.length_nil,two48]; omega) X (by simp [slFp])
  have ha2':=ha2 [.int .i64 0,.int .i64 0,.int .i64 0,.int .i64 0,.int .i64 0] rfl (fun _=>true) rfl
  change ∀ f e,appV 5 40 _ _ _ _ _=_ at ha2'
  have g4:=(q2.weak (T:=[]) (by simp [slFp])).get g3 (by simp)
  simp (maxDischargeDepth:=8) only [go_sem,s_ref04_New,hw,hH,ht.cell,hb.cell,r_ref04_Check ht hg hb,hc,okI,hH1,g1,ha1',g2,o4,o5,o6,hhb,hHl ▸ hhb,hH3,g3,ha2',q4,q5,q6,g4,eq_false (show ¬ H.length + 1 ≤ X.hl by omega)]
  obtain ⟨H5,hH5⟩:∃ H5,H4.set H.length (0,SBk.cells true [.int .i64 w,.int .i64 hh,v1,v2,.nils])=H5:=⟨_,rfl⟩
  rw [hH5]
  have k5:Keep [H.length] H4 H5:=by rw [← hH5]; exact Keep.set (by simp) _ _
  have k24:Keep [H.length] H2 H4:=k3.trans (q2.weak (by simp [slFp]))
  have f1:∀ i ∈ slFp v1,H.length + 1 ≤ i:=fun i hi=>by
    have:=o3 i hi
    simp [slFp] at this
    omega
  have f2:∀ i ∈ slFp v2,H2.length ≤ i:=fun i hi=>by
    have:=q3 i hi
    simp [slFp] at this
    have:=k3.1
    omega
  have f1':∀ i ∈ slFp v1,i < H2.length:=o1.fp
  have a1:Own byteF H5 v1 tiles:=(by simpa using o1:Own byteF H2 v1 tiles).keep (k24.trans k5) (fun i hi=>by have:=f1 i hi; simp; omega)
  have l2:H1.length ≤ H2.length:=o2.1
  have a2:Own bldF H5 v2 bl:=(by simpa using q1:Own bldF H4 v2 bl).keep k5 (fun i hi=>by have:=f2 i hi; simp; omega)
  refine ⟨H5,_,⟨H.length,v1,v2,.nils⟩,rfl,⟨⟨?_,a1.lies byteF_even,a2.lies bldF_even,LiesD.nil _ _,c1,c2,c3,c4⟩,a2,Own.nil _,?_,app_capL (ha2' [] none) rfl⟩,(kH3.trans (q2.weak (by simp [slFp]))).trans' k5 (by simp),?_⟩
  · rw [← hH5]; exact (hget_set_eq (hget_lt g4)).trans (if_pos rfl)
  · have n1:([H.length] ++ slFp v1).Nodup:=by
      rw [List.nodup_append]
      exact ⟨by simp,slFp_nodup _,fun a ha b hb=>by simp at ha; have:=f1 b hb; omega⟩
    simp only [QP.fp,slFp,List.append_nil]
    rw [List.nodup_append]
    refine ⟨n1,slFp_nodup _,fun a ha b hb=>?_⟩
    have:=f2 b hb
    rw [List.mem_append] at ha
    rcases ha with ha | ha
    · simp at ha; omega
    · have:=f1' a ha; omega
  · intro i hi
    simp only [QP.fp,slFp,List.append_nil,List.mem_append,List.mem_singleton] at hi
    rcases hi with (rfl | hi) | hi
    · exact Nat.le_refl _
    · have:=f1 i hi; omega
    · have:=f2 i hi; omega
theorem mxI_le {a b:Int}:a ≤ mxI a b ∧ b ≤ mxI a b ∧ (mxI a b=a ∨ mxI a b=b):=by unfold mxI; split <;> omega
theorem mnI_le {a b:Int}:mnI a b ≤ a ∧ mnI a b ≤ b ∧ (mnI a b=a ∨ mnI a b=b):=by unfold mnI; split <;> omega
theorem meet_iff {a b:Rc}:meetR a b=true ↔ ∃ x y,hasR a x y=true ∧ hasR b x y=true:=by
  unfold meetR meetB hasR
  simp only [has_iff]
  constructor
  · intro h
    simp only [Bool.and_eq_true,decide_eq_true_eq] at h
    obtain ⟨⟨h1,h2⟩,h3,h4⟩:=h
    have l1:=may_last h1
    have l2:=may_last h2
    have s1:=may_sides h1
    have s2:=may_sides h2
    rw [l1.1,l2.1] at h3
    rw [l1.2,l2.2] at h4
    have x1:=@mxI_le a.1 b.1
    have x2:=@mnI_le (a.1 + a.2.2.1 - 1) (b.1 + b.2.2.1 - 1)
    have y1:=@mxI_le a.2.1 b.2.1
    have y2:=@mnI_le (a.2.1 + a.2.2.2 - 1) (b.2.1 + b.2.2.2 - 1)
    exact ⟨mxI a.1 b.1,mxI a.2.1 b.2.1,⟨h1,by omega⟩,h2,by omega⟩
  · rintro ⟨x,y,⟨h1,h2⟩,h3,h4⟩
    have l1:=may_last h1
    have l2:=may_last h3
    have x1:=@mxI_le a.1 b.1
    have x2:=@mnI_le (a.1 + a.2.2.1 - 1) (b.1 + b.2.2.1 - 1)
    have y1:=@mxI_le a.2.1 b.2.1
    have y2:=@mnI_le (a.2.1 + a.2.2.2 - 1) (b.2.1 + b.2.2.2 - 1)
    simp only [h1,h3,Bool.true_and,Bool.and_eq_true,decide_eq_true_eq,l1.1,l1.2,l2.1,l2.2]
    omega
theorem atL_some {l:List Bld} {x y:Int}:(atL l x y).isSome=true ↔ ∃ a ∈ l,hasR a.2 x y=true:=by
  unfold atL
  rw [map_some',List.find?_isSome]
theorem full_iff {W:Wd} {r:Rc}:W.full r=true ↔ ∃ a ∈ W.bl,meetR a.2 r=true:=by
  unfold Wd.full
  rw [List.any_eq_true]
  constructor
  · rintro ⟨⟨x,y⟩,h1,h2⟩
    obtain ⟨a,ha,h3⟩:=atL_some.1 h2
    exact ⟨a,ha,meet_iff.2 ⟨x,y,h3,cellsP_mem.1 h1⟩⟩
  · rintro ⟨a,ha,h⟩
    obtain ⟨x,y,h1,h2⟩:=meet_iff.1 h
    exact ⟨(x,y),cellsP_mem.2 h2,atL_some.2 ⟨a,ha,h1⟩⟩
theorem alGet_none {α β:Type} [DecidableEq α] {k:α} {l:List (α × β)} (h:∀ a ∈ l,a.1 ≠ k):alGet k l=none:=by
  induction l with
  | nil=>rfl
  | cons a l ih =>
    obtain ⟨x,y⟩:=a
    unfold alGet
    rw [if_neg (fun e=>h _ (List.mem_cons_self ..) e.symm)]
    exact ih fun a ha=>h a (List.mem_cons_of_mem _ ha)
theorem may_iff {W:Wd} {b:Bld}:W.may b=0 ↔ bmayB b W.all=true ∧ alGet b.1 W.bl=none ∧ W.bl.length < 256 ∧ W.full b.2=false:=by
  constructor
  · exact may0
  · rintro ⟨h1,h2,h3,h4⟩
    unfold Wd.may
    rw [if_neg (by simp [h1]),if_neg (by simp [h2]),if_neg (by omega),if_neg (by simp [h4])]
structure Inv (W:Wd) (last:Int):Prop where
  le:∀ a ∈ W.bl,a.1 ≤ last
  z:W.bl=[] → last=0
  e:W.bl ≠ [] → ∃ a ∈ W.bl,a.1=last
theorem bmay_in {b:Bld} {q:Rc} (h:bmayB b q=true):1 ≤ b.1 ∧ rmayB b q=true:=by
  have h':=h
  simp only [bmayB,withinB,Bool.and_eq_true,decide_eq_true_eq] at h'
  have:=may_sides h'.2.1.1
  simp only [rmayB,h,Bool.true_and,Bool.and_eq_true,decide_eq_true_eq]
  omega
theorem rmay_b {b:Bld} {q:Rc} (h:rmayB b q=true):bmayB b q=true:=by
  simp only [rmayB,Bool.and_eq_true] at h
  exact h.1.1
theorem step_iff {W:Wd} {last:Int} {b:Bld} (hI:Inv W last):¬ (b.1 ≤ last ∨ W.may b ≠ 0) ↔ rmayB b W.all=true ∧ W.bl.all (fun a=>decide (a.1 < b.1) && !meetR a.2 b.2)=true ∧ W.bl.length < 256:=by
  simp only [not_or,Decidable.not_not,may_iff,List.all_eq_true,Bool.and_eq_true,decide_eq_true_eq,Bool.not_eq_true']
  constructor
  · rintro ⟨h1,h2,h3,h4,h5⟩
    refine ⟨(bmay_in h2).2,fun a ha=>⟨by have:=hI.le a ha; omega,?_⟩,h4⟩
    cases hm:meetR a.2 b.2 with
    | false=>rfl
    | true=>rw [full_iff.2 ⟨a,ha,hm⟩] at h5; cases h5
  · rintro ⟨h1,h2,h3⟩
    have hb:=rmay_b h1
    refine ⟨?_,hb,alGet_none fun a ha e=>?_,h3,?_⟩
    · by_cases hn:W.bl=[]
      · have:=hI.z hn; have:=(bmay_in hb).1; omega
      · obtain ⟨a,ha,e⟩:=hI.e hn
        have:=(h2 a ha).1
        omega
    · have:=(h2 a ha).1; omega
    · cases hf:W.full b.2 with
      | false=>rfl
      | true =>
        obtain ⟨a,ha,hm⟩:=full_iff.1 hf
        rw [(h2 a ha).2] at hm; cases hm
theorem newGo_chk:∀ (r:List Bld) (W:Wd) (last:Int),Inv W last → (newGo W last r).isSome=(chkGo W.all W.bl r && decide (W.bl.length + r.length ≤ 256)) ∨ W.bl.length > 256
  | [],W,last,_=>by
    by_cases h:W.bl.length > 256
    · exact .inr h
    · left; simp [newGo,chkGo]; omega
  | b :: r, W,last,hI=>by
    rw [newGo_cons,chkGo_cons]
    have hs:=step_iff (b:=b) hI
    by_cases hc:b.1 ≤ last ∨ W.may b ≠ 0
    · rw [if_pos hc]
      by_cases hl:W.bl.length > 256
      · exact .inr hl
      · left
        have:¬ (rmayB b W.all=true ∧ W.bl.all (fun a=>decide (a.1 < b.1) && !meetR a.2 b.2)=true ∧ W.bl.length < 256):=fun h=>(hs.2 h) hc
        simp only [Option.isSome_none]
        symm
        rw [Bool.and_eq_false_iff]
        by_cases h1:rmayB b W.all=true
        · by_cases h2:W.bl.all (fun a=>decide (a.1 < b.1) && !meetR a.2 b.2)=true
          · right
            simp only [List.length_cons,decide_eq_false_iff_not]
            have:¬ W.bl.length < 256:=fun h3=>this ⟨h1,h2,h3⟩
            omega
          · left; simp [h2]
        · left; simp [h1]
    · rw [if_neg hc]
      obtain ⟨h1,h2,h3⟩:=hs.1 hc
      have h0:W.may b=0:=by simp only [not_or,Decidable.not_not] at hc; exact hc.2
      have epl:W.place b={ W with bl:=W.bl ++ [b],dirty:=W.dirty ++ [b.2] }:=if_pos h0
      have hI':Inv (W.place b) b.1:=by
        rw [epl]
        refine ⟨fun a ha=>?_,fun h=>by simp at h,fun _=>⟨b,by simp,rfl⟩⟩
        simp only [List.mem_append,List.mem_singleton] at ha
        rcases ha with ha | rfl
        · have:=hI.le a ha
          simp only [not_or] at hc
          omega
        · exact Int.le_refl _
      rw [h1,h2,Bool.true_and,Bool.true_and]
      have key:=newGo_chk r (W.place b) b.1 hI'
      rw [epl] at key ⊢
      simp only [List.length_append,List.length_cons,List.length_nil] at key ⊢
      rcases key with key | key
      · left
        rw [key]
        simp only [Wd.all]
        congr 2
        rw [eq_iff_iff]
        omega
      · omega
theorem newGo_is:∀ (r:List Bld) (W:Wd) (last:Int) (W':Wd),newGo W last r=some W' → W'.w=W.w ∧ W'.h=W.h ∧ W'.tiles=W.tiles ∧ W'.bl=W.bl ++ r
  | [],W,last,W',h=>by simp only [newGo,Option.some.injEq] at h; subst h; simp
  | b :: r,W,last,W',h=>by
    rw [newGo_cons] at h
    split at h
    · cases h
    · rename_i hc
      have h0:W.may b=0:=by simp only [not_or,Decidable.not_not] at hc; exact hc.2
      have epl:W.place b={ W with bl:=W.bl ++ [b],dirty:=W.dirty ++ [b.2] }:=if_pos h0
      rw [epl] at h
      have:=newGo_is r _ _ _ h
      simpa using this
theorem new_chk (w h:Int) (tiles:List Int) (bl:List Bld):newW w h tiles bl=if chkB w h tiles bl then some ⟨w,h,tiles,bl,[]⟩ else none:=by
  have key:=newGo_chk bl ⟨w,h,tiles,[],[]⟩ 0 ⟨by simp,fun _=>rfl,fun h=>absurd rfl h⟩
  have key:(newGo ⟨w,h,tiles,[],[]⟩ 0 bl).isSome=(chkGo (0,0,w,h) [] bl && decide (bl.length ≤ 256)):=by simpa [Wd.all] using key
  have e1:chkB w h tiles bl=((dimsOk w h tiles.length && tiles.all (fun t=>decide (t < 4))) && (newGo ⟨w,h,tiles,[],[]⟩ 0 bl).isSome):=by
    rw [key]
    unfold chkB
    cases dimsOk w h tiles.length <;> cases tiles.all (fun t=>decide (t < 4)) <;> cases chkGo (0,0,w,h) [] bl <;> simp
  unfold newW
  rw [e1]
  cases dimsOk w h tiles.length && tiles.all (fun t=>decide (t < 4)) with
  | false=>rfl
  | true =>
    simp only [if_true,Bool.true_and]
    cases hg:newGo ⟨w,h,tiles,[],[]⟩ 0 bl with
    | none=>rfl
    | some W' =>
      obtain ⟨h1,h2,h3,h4⟩:=newGo_is _ _ _ _ hg
      simp only [Option.map_some,Option.isSome_some,if_true,Option.some.injEq]
      cases W'
      simp only [List.nil_append] at *
      subst h1 h2 h3 h4
      rfl
theorem WorldOwn.keep {A B:Hp} {p:WP} {W:Wd} {S:List Nat} (h:WorldOwn A p W) (k:Keep S A B) (hs:∀ i ∈ p.fp,i ∉ S):WorldOwn B p W:=h.congr fun i hi=>k.2 i (h.at_.lt i hi) (hs i hi)
theorem RefOwn.lt {H:Hp} {p:QP} {W:Wd} {bl:List Bld} (h:RefOwn H p W bl):∀ i ∈ p.fp,i < H.length:=by
  intro i hi
  simp only [QP.fp,List.mem_append,List.mem_singleton] at hi
  rcases hi with ((rfl | hi) | hi) | hi
  · exact hget_lt h.at_.hd
  · exact h.at_.tl.fp i hi
  · exact h.at_.bt.fp i hi
  · exact h.at_.el.fp i hi
theorem RefOwn.congr {A B:Hp} {p:QP} {W:Wd} {bl:List Bld} (h:RefOwn A p W bl) (hc:∀ i ∈ p.fp,B[i]? = A[i]?):RefOwn B p W bl :=
  ⟨⟨(hget_congr (hc _ (by simp [QP.fp])) 0).trans h.at_.hd,h.at_.tl.congr fun i hi=>hc i (by simp [QP.fp,hi]),h.at_.bt.congr fun i hi=>hc i (by simp [QP.fp,hi]),h.at_.el.congr fun i hi=>hc i (by simp [QP.fp,hi]),h.at_.w1,h.at_.h1,h.at_.len,h.at_.few⟩,
    h.ob.congr fun i hi=>hc i (by simp [QP.fp,hi]),h.oe.congr fun i hi=>hc i (by simp [QP.fp,hi]),h.nd,h.cp⟩
theorem RefOwn.keep {A B:Hp} {p:QP} {W:Wd} {bl:List Bld} {S:List Nat} (h:RefOwn A p W bl) (k:Keep S A B) (hs:∀ i ∈ p.fp,i ∉ S):RefOwn B p W bl:=h.congr fun i hi=>k.2 i (h.lt i hi) (hs i hi)
section
variable {X:Mem} {tv bv:SV} {tiles:List Int} {bl:List Bld} (ht:LiesD byteF (Hm X.heap) tv tiles) (hg:∀ t ∈ tiles,0 ≤ t ∧ t ≤ 255) (hb:LiesD bldF (Hm X.heap) bv bl) (hbl:bl.length ≤ two48) (hw:X.Wf) (hhb:X.hb ≤ X.hl) (w hh:Int)
include ht hg hb hbl hw hhb
theorem r_law06_Both_no (hc:chkB w hh tiles bl=false):∃ H' u,RF tb f_law06_Both [.agg [.int .i64 w,.int .i64 hh,tv,bv]] X=some (.tup [.nilp,.nilp,.bool false],(X.hp H').es (escMin X.esc u)) ∧ Keep [] X.heap H':=by
  rw [RF_go t_law06_Both _ _ rfl,push_hp]
  generalize hH:X.heap=H at *
  have hn:=r_grid_New (X:=(X.hp H).fr [.cells true [.int .i64 w,.int .i64 hh,tv,bv]] none) ht hb hbl (fr_wf (hp_wf hw) _ _) (by show X.hb ≤ H.length; rw [← hH]; exact hhb) w hh
  rw [new_chk,hc] at hn
  obtain ⟨H1,u1,h1,k1⟩:=hn
  change Keep [] H H1 at k1
  simp (maxDischargeDepth:=8) only [go_sem,s_law06_Both,hw,hH,ht.cell,hb.cell,h1,k1.sub,r_ref04_New_no ht hg hb,hc,show ((1:Int) == 0)=false from rfl]
  exact ⟨_,_,rfl,by rw [← hH] at k1 ⊢; exact k1.back0⟩
theorem r_law06_Both (hc:chkB w hh tiles bl=true):∃ H' u p q,RF tb f_law06_Both [.agg [.int .i64 w,.int .i64 hh,tv,bv]] X=some (.tup [.ptr (.hp p.k 0) 0,.ptr (.hp q.k 0) 0,.bool true],(X.hp H').es (escMin X.esc u)) ∧
    WorldOwn H' p ⟨w,hh,tiles,bl,[]⟩ ∧ RefOwn H' q ⟨w,hh,tiles,bl,[]⟩ bl ∧ Keep [] X.heap H' ∧ (∀ i ∈ p.fp,X.heap.length ≤ i ∧ i ∉ q.fp) ∧ (∀ i ∈ q.fp,X.heap.length ≤ i):=by
  rw [RF_go t_law06_Both _ _ rfl,push_hp]
  generalize hH:X.heap=H at *
  have hn:=r_grid_New (X:=(X.hp H).fr [.cells true [.int .i64 w,.int .i64 hh,tv,bv]] none) ht hb hbl (fr_wf (hp_wf hw) _ _) (by show X.hb ≤ H.length; rw [← hH]; exact hhb) w hh
  rw [new_chk,hc] at hn
  obtain ⟨H1,u1,p,h1,o1,k1,f1⟩:=hn
  change Keep [] H H1 at k1
  change ∀ i ∈ p.fp,H.length ≤ i at f1
  obtain ⟨H2,u2,q,h2,o2,k2,f2⟩:=r_ref04_New (X:=(X.hp H1).fr [.cells true [.int .i64 w,.int .i64 hh,tv,bv]] u1) (ht.keep k1 (by simp)) hg (hb.keep k1 (by simp)) (fr_wf (hp_wf hw) _ _) (by show X.hb ≤ H1.length; have:=k1.1; rw [← hH] at this; exact Nat.le_trans hhb this) w hh hc
  change Keep [] H1 H2 at k2
  change ∀ i ∈ q.fp,H1.length ≤ i at f2
  have hHl:X.hl=H.length:=by rw [← hH]; rfl
  have hq:H.length ≤ q.k:=by have:=f2 q.k (by simp [QP.fp]); have:=k1.1; omega
  have hpk:=f1 p.k (by simp [WP.fp])
  simp (maxDischargeDepth:=8) only [go_sem,s_law06_Both,hw,hH,ht.cell,hb.cell,h1,h2,show ((0:Int) == 0)=true from rfl]
  have e1:¬ max (p.k + 1) (q.k + 1) ≤ X.hl:=by omega
  have e2:∀ c:Prop,[Decidable c] → (if max (p.k + 1) (q.k + 1) ≤ X.hl ∧ c then H2.take X.hl else H2)=H2:=fun c _=>if_neg fun h=>e1 h.1
  rw [e2]
  refine ⟨H2,_,p,q,rfl,o1.keep k2 (by simp),o2,k1.trans k2,fun i hi=>⟨f1 i hi,fun h=>?_⟩,fun i hi=>?_⟩
  · have:=f2 i h
    have:=o1.at_.lt i hi
    omega
  · have:=f2 i hi
    have:=k1.1
    omega
end
def mayS (cl sz:Int):Bool:=decide (cl ≥ 0) && decide (cl < 4) && decide (sz ≥ 1) && decide (sz ≤ 4)
def onB (cl t:Int):Bool:=(decide (cl=0) && (decide (t=0) || decide (t=1))) || (decide (cl=1) && decide (t=0)) || (decide (cl=2) && decide (t=2)) || (decide (cl=3) && (decide (t=0) || decide (t=2)))
theorem r_class_May (X:Mem) (hw:X.Wf) (cl sz:Int):RF tb f_class_May [.agg [.int .i64 cl,.int .i64 sz]] X=some (.bool (mayS cl sz),X):=by
  rw [RF_go t_class_May _ _ rfl]
  simp (maxDischargeDepth:=8) only [go_sem,s_class_May,hw]
  repeat' ((first | rw [KG_bool] | rw [KC_bool]); split <;> rename_i h <;> (try simp only [Bool.not_eq_true,Bool.not_not,Bool.not_eq_eq_eq_not,Bool.not_true,Bool.not_false] at h) <;> simp (maxDischargeDepth:=8) only [go_sem,h,hw])
  all_goals simp_all [mayS]
  all_goals first | done | (intros; omega)
theorem r_ref06_May (X:Mem) (hw:X.Wf) (cl sz:Int):RF tb f_ref06_May [.agg [.int .i64 cl,.int .i64 sz]] X=some (.bool (mayS cl sz),X):=by
  rw [RF_go t_ref06_May _ _ rfl]
  simp (maxDischargeDepth:=8) only [go_sem,s_ref06_May,hw]
  repeat' ((first | rw [KG_bool] | rw [KC_bool]); split <;> rename_i h <;> (try simp only [Bool.not_eq_true,Bool.not_not,Bool.not_eq_eq_eq_not,Bool.not_true,Bool.not_false] at h) <;> simp (maxDischargeDepth:=8) only [go_sem,h,hw])
  all_goals simp_all [mayS]
  all_goals first | done | (intros; omega)
theorem r_class_On (X:Mem) (hw:X.Wf) (cl t:Int):RF tb f_class_On [.int .i64 cl,.int .i64 t] X=some (.bool (onB cl t),X):=by
  rw [RF_go t_class_On _ _ rfl]
  simp (maxDischargeDepth:=8) only [go_sem,s_class_On,hw]
  by_cases hc:0 ≤ cl ∧ cl < 4 ∧ 0 ≤ t ∧ t < 4
  · have h1:cl=0 ∨ cl=1 ∨ cl=2 ∨ cl=3:=by omega
    have h2:t=0 ∨ t=1 ∨ t=2 ∨ t=3:=by omega
    rcases h1 with rfl | rfl | rfl | rfl <;> rcases h2 with rfl | rfl | rfl | rfl <;>
      (simp (maxDischargeDepth:=8) only [go_sem,hw,show decide ((0:Int) ≥ 0)=true from rfl,show decide ((1:Int) ≥ 0)=true from rfl,show decide ((2:Int) ≥ 0)=true from rfl,show decide ((3:Int) ≥ 0)=true from rfl,show decide ((0:Int) < 4)=true from rfl,show decide ((1:Int) < 4)=true from rfl,show decide ((2:Int) < 4)=true from rfl,show decide ((3:Int) < 4)=true from rfl,show inB 0 4=true from rfl,show inB 1 4=true from rfl,show inB 2 4=true from rfl,show inB 3 4=true from rfl,ibits]; rfl)
  · have e:onB cl t=false:=by
      simp only [onB,Bool.or_eq_false_iff,Bool.and_eq_false_iff,decide_eq_false_iff_not]
      omega
    rw [e]
    repeat' ((first | rw [KG_bool] | rw [KC_bool]); split <;> rename_i h <;> (try simp only [Bool.not_eq_true,Bool.not_not,Bool.not_eq_eq_eq_not,Bool.not_true,Bool.not_false] at h) <;> simp (maxDischargeDepth:=8) only [go_sem,h,hw])
    all_goals first | rfl | (exfalso; simp at *; omega)
theorem r_ref06_On (X:Mem) (hw:X.Wf) (cl t:Int):RF tb f_ref06_On [.int .i64 cl,.int .i64 t] X=some (.bool (onB cl t),X):=by
  rw [RF_go t_ref06_On _ _ rfl]
  simp (maxDischargeDepth:=8) only [go_sem,s_ref06_On,hw]
  repeat' ((first | rw [KG_bool] | rw [KC_bool]); split <;> rename_i h <;> (try simp only [Bool.not_eq_true,Bool.not_not,Bool.not_eq_eq_eq_not,Bool.not_true,Bool.not_false] at h) <;> simp (maxDischargeDepth:=8) only [go_sem,h,hw])
  all_goals simp_all [onB]
  all_goals rfl
def footR (cl sz x y:Int):Rc:=if mayS cl sz && mayB x y sz sz then (x,y,sz,sz) else (0,0,0,0)
theorem r_class_Foot (X:Mem) (hw:X.Wf) (cl sz x y:Int):RF tb f_class_Foot [.agg [.int .i64 cl,.int .i64 sz],.agg [.int .i64 x,.int .i64 y]] X=some (rectR (footR cl sz x y),X):=by
  rw [RF_go t_class_Foot _ _ rfl]
  simp (maxDischargeDepth:=8) only [go_sem,s_class_Foot,hw,r_class_May,r_cell_May]
  repeat' ((first | rw [KG_bool] | rw [KC_bool]); split <;> rename_i h <;> (try simp only [Bool.not_eq_true,Bool.not_not,Bool.not_eq_eq_eq_not,Bool.not_true,Bool.not_false] at h) <;> simp (maxDischargeDepth:=8) only [go_sem,h,hw,r_class_May,r_cell_May])
  all_goals simp_all [footR]
theorem r_ref06_Foot (X:Mem) (hw:X.Wf) (cl sz x y:Int):RF tb f_ref06_Foot [.agg [.int .i64 cl,.int .i64 sz],.agg [.int .i64 x,.int .i64 y]] X=some (rectR (footR cl sz x y),X):=by
  rw [RF_go t_ref06_Foot _ _ rfl]
  simp (maxDischargeDepth:=8) only [go_sem,s_ref06_Foot,hw,r_ref06_May,r_ref03_May]
  repeat' ((first | rw [KG_bool] | rw [KC_bool]); split <;> rename_i h <;> (try simp only [Bool.not_eq_true,Bool.not_not,Bool.not_eq_eq_eq_not,Bool.not_true,Bool.not_false] at h) <;> simp (maxDischargeDepth:=8) only [go_sem,h,hw,r_ref06_May,r_ref03_May])
  all_goals simp_all [footR]
def Wd.free (W:Wd) (cl a b:Int):Bool:=!(atL W.bl a b).isSome && onB cl (if W.has a b then W.tile a b else 0)
def Wd.stands (W:Wd) (cl sz x y:Int):Bool :=
  withinB (footR cl sz x y).1 (footR cl sz x y).2.1 (footR cl sz x y).2.2.1 (footR cl sz x y).2.2.2 0 0 W.w W.h &&
    !(cellsP (footR cl sz x y).1 (footR cl sz x y).2.1 (footR cl sz x y).2.2.1 (footR cl sz x y).2.2.2).any fun c=>!W.free cl c.1 c.2
theorem r_class_Stands {m:Mem} {p:WP} {W:Wd} (hW:WorldAt m p W) (hg:W.Good) {X:Mem} (hX:HpSub m X) (hw:X.Wf) (cl sz x y:Int):RF tb f_class_Stands [.ptr (.hp p.k 0) 0,.agg [.int .i64 cl,.int .i64 sz],.agg [.int .i64 x,.int .i64 y]] X=some (.bool (W.stands cl sz x y),X):=by
  rw [RF_go t_class_Stands _ _ rfl,push_hp]
  generalize hH:X.heap=H
  simp (maxDischargeDepth:=8) only [go_sem,s_class_Stands,hw,hX,hH,r_class_Foot]
  unfold Wd.stands
  generalize footR cl sz x y=r
  obtain ⟨rx,ry,rw',rh⟩:=r
  simp (maxDischargeDepth:=8) only [go_sem,hw,hX,hH,r_grid_World_All hW,r_cell_Within]
  cases h1:withinB rx ry rw' rh 0 0 W.w W.h with
  | false=>simp (maxDischargeDepth:=8) only [go_sem,hw,hH]
  | true =>
    simp (maxDischargeDepth:=8) only [go_sem,hw,hH,r_cell_Cells]
    rw [cells_findG (fun M=>M.lp (.st X.dep 5) .done (some .ret)) (fun a b=>!W.free cl a b) (d:=X.dep + 1) (x:=rx) (y:=ry) (w:=rw') (hh:=rh) (by omega)]
    case hB=>exact ⟨rfl,by simp (maxDischargeDepth:=8) only [go_sem,hw],by simp (maxDischargeDepth:=8) only [go_sem,hapGet]⟩
    case hB'=>exact ⟨by simp (maxDischargeDepth:=8) only [go_sem,hw],by simp (maxDischargeDepth:=8) only [go_sem,hw],by simp (maxDischargeDepth:=8) only [go_sem,hapGet]⟩
    case hl=>simp (maxDischargeDepth:=8) only [go_sem]
    case he=>simp (maxDischargeDepth:=8) only [go_sem]
    case step =>
      intro a b hab fs e
      rw [RV_go (l:=⟨.ready,none,_,_,_,_⟩) _ _ _ (by simp (maxDischargeDepth:=8) only [go_sem]; rfl) rfl rfl (by simp (maxDischargeDepth:=8) only [go_sem,hw])]
      simp (maxDischargeDepth:=8) only [go_sem,hw,hX,hH,r_grid_World_Terrain hW hg,r_grid_World_At hW,r_class_On]
      cases h2:(atL W.bl a b).isSome with
      | true =>
        have h3:W.free cl a b=false:=by unfold Wd.free; rw [h2]; rfl
        simp (maxDischargeDepth:=8) only [go_sem,hw,h3]
      | false =>
        simp (maxDischargeDepth:=8) only [go_sem,hw,hX,hH,r_class_On]
        cases h4:onB cl (if W.has a b then W.tile a b else 0) with
        | true =>
          have h3:W.free cl a b=true:=by unfold Wd.free; rw [h2,h4]; rfl
          simp (maxDischargeDepth:=8) only [go_sem,hw,h3]
        | false =>
          have h3:W.free cl a b=false:=by unfold Wd.free; rw [h2,h4]; rfl
          simp (maxDischargeDepth:=8) only [go_sem,hw,h3]
    cases h5:(cellsP rx ry rw' rh).any fun c=>!W.free cl c.1 c.2 with
    | true=>simp (maxDischargeDepth:=8) only [go_sem,hw,hH]
    | false=>simp (maxDischargeDepth:=8) only [go_sem,hw,hH]
theorem r_ref06_Stands {m:Mem} {p:QP} {W:Wd} {bl:List Bld} (hV:RefAt m p W bl) (ho:∀ a b,(atL bl a b).isSome=(atL W.bl a b).isSome) (hg:W.Good) {X:Mem} (hX:HpSub m X) (hw:X.Wf) (cl sz x y:Int):RF tb f_ref06_Stands [.ptr (.hp p.k 0) 0,.agg [.int .i64 cl,.int .i64 sz],.agg [.int .i64 x,.int .i64 y]] X=some (.bool (W.stands cl sz x y),X):=by
  rw [RF_go t_ref06_Stands _ _ rfl]
  simp (maxDischargeDepth:=8) only [go_sem,s_ref06_Stands,hw,hX,r_ref06_Foot]
  unfold Wd.stands
  generalize footR cl sz x y=r
  obtain ⟨rx,ry,rw',rh⟩:=r
  simp (maxDischargeDepth:=8) only [go_sem,hw,hX,r_ref04_All hV,r_ref03_Within]
  cases h1:withinB rx ry rw' rh 0 0 W.w W.h with
  | false=>simp (maxDischargeDepth:=8) only [go_sem,hw]
  | true =>
    have hmay:mayB rx ry rw' rh=true:=by simp only [withinB,Bool.and_eq_true] at h1; exact h1.1.1
    have hmi:=may_in hmay
    have hms:=may_sides hmay
    have hbad:∀ a b,hasB rx ry rw' rh a b=true → W.free cl a b=false → (!(cellsP rx ry rw' rh).any fun c=>!W.free cl c.1 c.2)=false:=by
      intro a b hh hf
      have:(cellsP rx ry rw' rh).any (fun c=>!W.free cl c.1 c.2)=true:=List.any_eq_true.2 ⟨(a,b),cellsP_mem.2 hh,by simp [hf]⟩
      rw [this]; rfl
    have hall:(∀ a b,hasB rx ry rw' rh a b=true → W.free cl a b=true) → (!(cellsP rx ry rw' rh).any fun c=>!W.free cl c.1 c.2)=true:=by
      intro h
      have:(cellsP rx ry rw' rh).any (fun c=>!W.free cl c.1 c.2)=false:=by
        rw [List.any_eq_false]
        rintro ⟨a,b⟩ hc
        simp [h a b (cellsP_mem.1 hc)]
      rw [this]; rfl
    have hwy:IntKind.wrap .i64 (ry + rh)=ry + rh:=wrap_small (by omega) (by omega)
    have hwx:IntKind.wrap .i64 (rx + rw')=rx + rw':=wrap_small (by omega) (by omega)
    simp (maxDischargeDepth:=8) only [go_sem,hw]
    rw [KL_keep _ _ _ (by simp (maxDischargeDepth:=8) only [go_sem])]
    simp (maxDischargeDepth:=8) only [go_sem]
    refine KL_indE (α:=Int) (fun b=>(ry + rh - b).toNat) (fun b=>[(0,.ptr (.hp p.k 0) 0),(4,.ptr (.st X.dep 0) 0),(7,.ptr (.st X.dep 2) 0),(8,.int .i64 b)]) (fun _=>X.fr [.cells true [.int .i64 cl,.int .i64 sz],.cells true [.int .i64 x,.int .i64 y],.cells true [.int .i64 rx,.int .i64 ry,.int .i64 rw',.int .i64 rh]] none)
      (fun b=>ry ≤ b ∧ b ≤ ry + rh ∧ ∀ a c,hasB rx ry rw' rh a c=true → c < b → W.free cl a c=true) ?_ ry ⟨Int.le_refl _,by omega,fun a c h h'=>by have:=has_iff.1 h; omega⟩
    rintro b ⟨hb1,hb2,hbI⟩ ih
    simp (maxDischargeDepth:=8) only [go_sem,hw,hwy]
    by_cases hlt:b < ry + rh
    · simp (maxDischargeDepth:=8) only [go_sem,show decide (b < ry + rh)=true from decide_eq_true hlt,hw]
      rw [KL_keep _ _ _ (by simp (maxDischargeDepth:=8) only [go_sem])]
      simp (maxDischargeDepth:=8) only [go_sem]
      refine KL_indE (α:=Int) (fun a=>(rx + rw' - a).toNat) (fun a=>[(0,.ptr (.hp p.k 0) 0),(4,.ptr (.st X.dep 0) 0),(7,.ptr (.st X.dep 2) 0),(8,.int .i64 b),(9,.int .i64 a)]) (fun _=>X.fr [.cells true [.int .i64 cl,.int .i64 sz],.cells true [.int .i64 x,.int .i64 y],.cells true [.int .i64 rx,.int .i64 ry,.int .i64 rw',.int .i64 rh]] none)
        (fun a=>rx ≤ a ∧ a ≤ rx + rw' ∧ ∀ d,hasB rx ry rw' rh d b=true → d < a → W.free cl d b=true) ?_ rx ⟨Int.le_refl _,by omega,fun d h h'=>by have:=has_iff.1 h; omega⟩
      rintro a ⟨ha1,ha2,haI⟩ ih'
      simp (maxDischargeDepth:=8) only [go_sem,hw,hwx]
      by_cases hlt':a < rx + rw'
      · have hab:hasB rx ry rw' rh a b=true:=has_iff.2 ⟨hmay,by omega⟩
        simp (maxDischargeDepth:=8) only [go_sem,show decide (a < rx + rw')=true from decide_eq_true hlt',hw,hX,r_ref04_Terrain hV hg,r_ref04_At hV]
        have hwb:IntKind.wrap .i64 (a + 1)=a + 1:=wrap_small (by omega) (by omega)
        have hnext:W.free cl a b=true → ∀ d,hasB rx ry rw' rh d b=true → d < a + 1 → W.free cl d b=true:=by
          intro hf d hd hlt
          by_cases e:d=a
          · subst e; exact hf
          · exact haI d hd (by omega)
        have h2':=ho a b
        cases h2:(atL bl a b).isSome with
        | true =>
          rw [h2] at h2'
          have h3:W.free cl a b=false:=by unfold Wd.free; rw [← h2']; rfl
          simp (maxDischargeDepth:=8) only [go_sem,hw,hbad a b hab h3]
        | false =>
          rw [h2] at h2'
          simp (maxDischargeDepth:=8) only [go_sem,hw,hX,r_ref06_On]
          cases h4:onB cl (if W.has a b then W.tile a b else 0) with
          | true =>
            have h3:W.free cl a b=true:=by unfold Wd.free; rw [← h2',h4]; rfl
            simp (maxDischargeDepth:=8) only [go_sem,hw,hwb]
            rw [KL_keep _ _ _ (by simp (maxDischargeDepth:=8) only [go_sem])]
            simp (maxDischargeDepth:=8) only [go_sem]
            exact ih' (a + 1) ⟨by omega,by omega,hnext h3⟩ (by omega)
          | false =>
            have h3:W.free cl a b=false:=by unfold Wd.free; rw [← h2',h4]; rfl
            simp (maxDischargeDepth:=8) only [go_sem,hw,hbad a b hab h3]
      · have hwb:IntKind.wrap .i64 (b + 1)=b + 1:=wrap_small (by omega) (by omega)
        simp (maxDischargeDepth:=8) only [go_sem,show decide (a < rx + rw')=false from decide_eq_false hlt',hw,hwb]
        rw [KL_keep _ _ _ (by simp (maxDischargeDepth:=8) only [go_sem])]
        simp (maxDischargeDepth:=8) only [go_sem]
        refine ih (b + 1) ⟨by omega,by omega,fun d c hd hlt=>?_⟩ (by omega)
        by_cases e:c=b
        · subst e; have:=has_iff.1 hd; exact haI d hd (by omega)
        · exact hbI d c hd (by omega)
    · simp (maxDischargeDepth:=8) only [go_sem,show decide (b < ry + rh)=false from decide_eq_false hlt,hw,hall (fun a c h=>hbI a c h (by have:=has_iff.1 h; omega))]
def Wd.steps (W:Wd) (cl sz x y d:Int):Bool:=stepOk x y d && W.stands cl sz x y && W.stands cl sz (x + turnX d) (y + turnY d) && (!sideOk x y d || (W.stands cl sz (x + turnX d) y && W.stands cl sz x (y + turnY d)))
def Wd.plain (w h:Int):Wd:=⟨w,h,List.replicate (w * h).toNat 0,[],[]⟩
structure MapIn (X:Mem) (tv bv:SV) (tiles:List Int) (bl:List Bld):Prop where
  t:LiesD byteF (Hm X.heap) tv tiles
  g:∀ t ∈ tiles,0 ≤ t ∧ t ≤ 255
  b:LiesD bldF (Hm X.heap) bv bl
  n:bl.length ≤ two48
theorem hxs_cell (l:List (Int × Int)):SV.hxs (l.flatMap cellF.enc)=0:=by induction l with | nil=>rfl | cons a l ih=>simp only [List.flatMap_cons]; exact ih
end Go.Sh.T
