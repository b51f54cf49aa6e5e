import Derived.Test.YtepecbjlfekkaaaShTabPartsNobody
import Derived.Test.YtepecbjlfekkaaaShArg
set_option linter.all false
set_option linter.unusedVariables false
set_option linter.unusedSimpArgs false
set_option autoImplicit false
namespace Go.Sh.T
open Go.Sh
set_option maxHeartbeats 8000000
set_option maxRecDepth 20000
def nearP (x : Int) : Bool := decide (-1048576 ≤ x) && decide (x ≤ 1048576)
def nearC (x y : Int) : Bool := nearP x && nearP y
def turnX (d : Int) : Int := if d = 0 then 1 else if d = 2 then -1 else if d = 4 then 1 else if d = 5 then -1 else if d = 6 then -1 else if d = 7 then 1 else 0
def turnY (d : Int) : Int := if d = 1 then 1 else if d = 3 then -1 else if d = 4 then 1 else if d = 5 then 1 else if d = 6 then -1 else if d = 7 then -1 else 0
def isDir (d : Int) : Bool := decide (0 ≤ d) && decide (d ≤ 7)
theorem r_cell_near (m : Mem) (x : Int) : RF tb f_cell_near [.int .i64 x] m = some (.bool (nearP x), m) := by
  rw [RF_go t_cell_near _ _ rfl]
  simp (maxDischargeDepth := 8) only [go_sem, s_cell_near]
  ((first | rw [KG_bool] | rw [KC_bool]); split <;> rename_i h <;> (try simp only [Bool.not_eq_true, Bool.not_not, Bool.not_eq_eq_eq_not, Bool.not_true, Bool.not_false] at h) <;> simp (maxDischargeDepth := 8) only [go_sem, h]) <;> simp_all [nearP] <;> omega
theorem r_cell_Near (m : Mem) (hm : m.Wf) (x y : Int) : RF tb f_cell_Near [.agg [.int .i64 x, .int .i64 y]] m = some (.bool (nearC x y), m) := by
  rw [RF_go t_cell_Near _ _ rfl]
  simp (maxDischargeDepth := 8) only [go_sem, s_cell_Near, r_cell_near]
  ((first | rw [KG_bool] | rw [KC_bool]); split <;> rename_i h <;> (try simp only [Bool.not_eq_true, Bool.not_not, Bool.not_eq_eq_eq_not, Bool.not_true, Bool.not_false] at h) <;> simp (maxDischargeDepth := 8) only [go_sem, h, r_cell_near]) <;> simp_all [nearC]
def stepOk (x y d : Int) : Bool := isDir d && nearC x y && nearC (x + turnX d) (y + turnY d)
theorem wrap_small {x : Int} (h1 : -9223372036854775808 ≤ x) (h2 : x ≤ 9223372036854775807) : IntKind.wrap .i64 x = x := by
  simp only [IntKind.wrap, IntKind.bits, IntKind.signed]
  simp
  omega
theorem near_in {x : Int} (h : nearP x = true) : -1048576 ≤ x ∧ x ≤ 1048576 := by simpa [nearP] using h
theorem nearC_in {x y : Int} (h : nearC x y = true) : (-1048576 ≤ x ∧ x ≤ 1048576) ∧ (-1048576 ≤ y ∧ y ≤ 1048576) := by
  simp only [nearC, Bool.and_eq_true] at h; exact ⟨near_in h.1, near_in h.2⟩
def costP (d : Int) : Int := if isDir d then if d < 4 then 10 else 14 else 0
def sideOk (x y d : Int) : Bool := stepOk x y d && decide (4 ≤ d)
def lastX (x w : Int) : Int := IntKind.wrap .i64 (IntKind.wrap .i64 (x + w) - 1)
abbrev rect (x y w h : Int) : SV := .agg [.int .i64 x, .int .i64 y, .int .i64 w, .int .i64 h]
theorem r_cell_last (m : Mem) (hm : m.Wf) (x y w h : Int) : RF tb f_cell_last [rect x y w h] m = some (.agg [.int .i64 (lastX x w), .int .i64 (lastX y h)], m) := by
  rw [RF_go t_cell_last _ _ rfl]
  simp (maxDischargeDepth := 8) only [go_sem, s_cell_last, hm, rect]
  rfl
def sideB (n : Int) : Bool := decide (1 ≤ n) && decide (n ≤ 1048576)
theorem r_cell_side (m : Mem) (n : Int) : RF tb f_cell_side [.int .i64 n] m = some (.bool (sideB n), m) := by
  rw [RF_go t_cell_side _ _ rfl]
  simp (maxDischargeDepth := 8) only [go_sem, s_cell_side]
  ((first | rw [KG_bool] | rw [KC_bool]); split <;> rename_i h <;> (try simp only [Bool.not_eq_true, Bool.not_not, Bool.not_eq_eq_eq_not, Bool.not_true, Bool.not_false] at h) <;> simp (maxDischargeDepth := 8) only [go_sem, h]) <;> simp_all [sideB] <;> omega
def mayB (x y w h : Int) : Bool := nearC x y && sideB w && sideB h && nearC (lastX x w) (lastX y h)
theorem r_cell_May (m : Mem) (hm : m.Wf) (x y w h : Int) : RF tb f_cell_May [rect x y w h] m = some (.bool (mayB x y w h), m) := by
  rw [RF_go t_cell_May _ _ rfl]
  simp (maxDischargeDepth := 8) only [go_sem, s_cell_May, hm, rect, r_cell_Near, r_cell_last, r_cell_side]
  repeat' ((first | rw [KG_bool] | rw [KC_bool]); split <;> rename_i h <;> (try simp only [Bool.not_eq_true, Bool.not_not, Bool.not_eq_eq_eq_not, Bool.not_true, Bool.not_false] at h) <;> simp (maxDischargeDepth := 8) only [go_sem, h, hm, r_cell_Near, r_cell_last, r_cell_side])
  all_goals simp_all [mayB]
def hasB (x y w h a b : Int) : Bool := mayB x y w h && (decide (x ≤ a) && decide (y ≤ b) && decide (a ≤ lastX x w) && decide (b ≤ lastX y h))
theorem r_cell_Has (m : Mem) (hm : m.Wf) (x y w h a b : Int) : RF tb f_cell_Has [rect x y w h, .agg [.int .i64 a, .int .i64 b]] m = some (.bool (hasB x y w h a b), m) := by
  rw [RF_go t_cell_Has _ _ rfl]
  simp (maxDischargeDepth := 8) only [go_sem, s_cell_Has, hm, rect, r_cell_May, r_cell_last]
  repeat' ((first | rw [KG_bool] | rw [KC_bool]); split <;> rename_i h <;> (try simp only [Bool.not_eq_true, Bool.not_not, Bool.not_eq_eq_eq_not, Bool.not_true, Bool.not_false] at h) <;> simp (maxDischargeDepth := 8) only [go_sem, h, hm, r_cell_May, r_cell_last])
  all_goals simp_all [hasB]
  all_goals omega
def withinB (x y w h a b c d : Int) : Bool := mayB x y w h && hasB a b c d x y && hasB a b c d (lastX x w) (lastX y h)
theorem r_cell_Within (m : Mem) (hm : m.Wf) (x y w h a b c d : Int) : RF tb f_cell_Within [rect x y w h, rect a b c d] m = some (.bool (withinB x y w h a b c d), m) := by
  rw [RF_go t_cell_Within _ _ rfl]
  simp (maxDischargeDepth := 8) only [go_sem, s_cell_Within, hm, rect, r_cell_May, r_cell_Has, r_cell_last]
  repeat' ((first | rw [KG_bool] | rw [KC_bool]); split <;> rename_i h <;> (try simp only [Bool.not_eq_true, Bool.not_not, Bool.not_eq_eq_eq_not, Bool.not_true, Bool.not_false] at h) <;> simp (maxDischargeDepth := 8) only [go_sem, h, hm, rect, r_cell_May, r_cell_Has, r_cell_last])
  all_goals simp_all [withinB]
theorem may_in {x y w hh : Int} (h : mayB x y w hh = true) : (-1048576 ≤ x ∧ x ≤ 1048576) ∧ (-1048576 ≤ y ∧ y ≤ 1048576) ∧ (-1048576 ≤ lastX x w ∧ lastX x w ≤ 1048576) ∧ (-1048576 ≤ lastX y hh ∧ lastX y hh ≤ 1048576) := by
  simp only [mayB, Bool.and_eq_true] at h
  have h1 := nearC_in h.1.1.1
  have h2 := nearC_in h.2
  exact ⟨h1.1, h1.2, h2.1, h2.2⟩
/-- A rectangle's cells, row by row. -/
def cellsL (x y w h : Int) : List (List SV) := if mayB x y w h then (List.range (w.toNat * h.toNat)).map fun n => [.agg [.int .i64 (x + ((n % w.toNat : Nat) : Int)), .int .i64 (y + ((n / w.toNat : Nat) : Int))]] else []
def boxAt (d n : Nat) (x y w h : Int) (m : Mem) : Prop := m.dep = d ∧ m.Wf ∧ m.get (.hp n 0) = some (.cells true [.int .i64 x, .int .i64 y, .int .i64 w, .int .i64 h])
theorem r_cell_Cells (m : Mem) (hm : m.Wf) (x y w h : Int) : RF tb f_cell_Cells [rect x y w h] m = some (.fn f_cell_Cells_1 [] [.ptr (.hp m.hl 0) 0], m.hap [(0, .cells true [.int .i64 x, .int .i64 y, .int .i64 w, .int .i64 h])]) := by
  rw [RF_go t_cell_Cells _ _ rfl]
  simp (maxDischargeDepth := 8) only [go_sem, s_cell_Cells, hm, rect]
theorem r_cell_Cells_1 {D i d n : Nat} (hD : D < d) {x y w hh : Int} {M M' : Mem} {U : Option Nat} {go : Bool} (hB : boxAt d n x y w hh M) (hR : Rounds tb (.st D i) (boxAt d n x y w hh) M.hl (cellsL x y w hh) M none M' U go) (fs : List (List SBk)) (e : Option Nat) :
    RF tb f_cell_Cells_1 [.yld (.st D i), .ptr (.hp n 0) 0] (M.frs fs e) = some (.tup [], M'.frs fs (escMin e U)) := by
  rw [RF_go t_cell_Cells_1 _ _ rfl]
  have hb : ∀ {m : Mem}, boxAt d n x y w hh m → ∀ off k, m.load (.hp n 0) off k = partv [.int .i64 x, .int .i64 y, .int .i64 w, .int .i64 hh] off k := fun h off k => by rw [load_get, h.2.2]
  simp (maxDischargeDepth := 8) only [go_sem, s_cell_Cells_1, hB.2.1, hb hB, r_cell_May]
  cases hmay : mayB x y w hh with
  | false =>
    have e0 : cellsL x y w hh = [] := by simp [cellsL, hmay]
    rw [e0] at hR
    cases hR
    simp (maxDischargeDepth := 8) only [go_sem]
  | true =>
    have e0 : cellsL x y w hh = (List.range (w.toNat * hh.toNat)).map fun n => [.agg [.int .i64 (x + ((n % w.toNat : Nat) : Int)), .int .i64 (y + ((n / w.toNat : Nat) : Int))]] := by simp [cellsL, hmay]
    rw [e0] at hR
    generalize hL : ((List.range (w.toNat * hh.toNat)).map fun n => [SV.agg [.int .i64 (x + ((n % w.toNat : Nat) : Int)), .int .i64 (y + ((n / w.toNat : Nat) : Int))]]) = L at hR
    have hm4 := may_in hmay
    have hwh : (1 ≤ w ∧ w ≤ 1048576) ∧ (1 ≤ hh ∧ hh ≤ 1048576) := by simp [mayB, sideB] at hmay; omega
    simp (maxDischargeDepth := 8) only [go_sem, hb hB]
    rw [KL_keep _ _ _ (by simp (maxDischargeDepth := 8) only [go_sem, hD, hB.1])]
    simp (maxDischargeDepth := 8) only [go_sem]
    refine KL_ind (R := fun z => fin [] (M.frs fs e) z = some (.tup [], M'.frs fs (escMin e U))) (α := Nat × Mem × Option Nat) (fun a => hh.toNat - a.1) (fun a => [(0, .yld (.st D i)), (1, .ptr (.hp n 0) 0), (9, .int .i64 hh), (10, .int .i64 (a.1 : Int))]) (fun a => (a.2.1.frs fs e).fr [] a.2.2)
      (fun a => a.1 ≤ hh.toNat ∧ boxAt d n x y w hh a.2.1 ∧ Noted M.hl a.2.1 a.2.2 ∧ Rounds tb (.st D i) (boxAt d n x y w hh) M.hl (L.drop (a.1 * w.toNat)) a.2.1 a.2.2 M' U go) ?_ (0, M, none) ⟨Nat.zero_le _, hB, .inl rfl, by simpa using hR⟩
    rintro ⟨yy, m, u⟩ ⟨h1, h2, h3, h4⟩ ih
    dsimp only at h1 h2 h3 h4 ⊢
    simp (maxDischargeDepth := 8) only [go_sem, hD, h2.1, h2.2.1, hb h2]
    by_cases hy : yy < hh.toNat
    · simp (maxDischargeDepth := 8) only [go_sem, show decide ((yy : Int) < hh) = true from decide_eq_true (by omega), h2.1, h2.2.1, hb h2]
      rw [KL_keep _ _ _ (by simp (maxDischargeDepth := 8) only [go_sem, hD, h2.1])]
      simp (maxDischargeDepth := 8) only [go_sem]
      refine KL_ind (R := fun z => fin [] (M.frs fs e) z = some (.tup [], M'.frs fs (escMin e U))) (α := Nat × Mem × Option Nat) (fun a => w.toNat - a.1) (fun a => [(0, .yld (.st D i)), (1, .ptr (.hp n 0) 0), (3, .int .i64 (yy : Int)), (9, .int .i64 hh), (10, .int .i64 (yy : Int)), (14, .int .i64 w), (15, .int .i64 (a.1 : Int))]) (fun a => (a.2.1.frs fs e).fr [] a.2.2)
        (fun a => a.1 ≤ w.toNat ∧ boxAt d n x y w hh a.2.1 ∧ Noted M.hl a.2.1 a.2.2 ∧ Rounds tb (.st D i) (boxAt d n x y w hh) M.hl (L.drop (yy * w.toNat + a.1)) a.2.1 a.2.2 M' U go) ?_ (0, m, u) ⟨Nat.zero_le _, h2, h3, by simpa using h4⟩
      clear h2 h3 h4
      rintro ⟨xx, m, u⟩ ⟨h1', h2, h3, h4⟩ ih'
      dsimp only at h1' h2 h3 h4 ⊢
      simp (maxDischargeDepth := 8) only [go_sem, hD, h2.1, h2.2.1, hb h2]
      by_cases hx : xx < w.toNat
      · simp (maxDischargeDepth := 8) only [go_sem, show decide ((xx : Int) < w) = true from decide_eq_true (by omega), h2.1, h2.2.1, hb h2]
        have hwx : IntKind.wrap .i64 (x + (xx : Int)) = x + (xx : Int) := wrap_small (by omega) (by omega)
        have hwy : IntKind.wrap .i64 (y + (yy : Int)) = y + (yy : Int) := wrap_small (by omega) (by omega)
        have hw1 : IntKind.wrap .i64 ((xx : Int) + 1) = ((xx + 1 : Nat) : Int) := by rw [wrap_small (by omega) (by omega)]; rfl
        have hk1 : yy * w.toNat + xx < w.toNat * hh.toNat := by
          have : (yy + 1) * w.toNat ≤ hh.toNat * w.toNat := Nat.mul_le_mul_right _ (by omega)
          rw [Nat.add_mul] at this
          rw [Nat.mul_comm w.toNat]
          omega
        have hel : L.drop (yy * w.toNat + xx) = [.agg [.int .i64 (x + (xx : Int)), .int .i64 (y + (yy : Int))]] :: L.drop (yy * w.toNat + (xx + 1)) := by
          rw [List.drop_eq_getElem_cons (by rw [← hL]; simpa using hk1)]
          congr 1
          simp only [← hL, List.getElem_map, List.getElem_range]
          rw [Nat.mul_comm yy, Nat.mul_add_mod, Nat.mod_eq_of_lt hx, Nat.mul_add_div (by omega), Nat.div_eq_of_lt hx]
          rfl
        rw [hel] at h4
        rw [hwx, hwy]
        cases h4 with
        | stop hy hp hk => simp (maxDischargeDepth := 8) only [go_sem, yields_fr hy, back_rounds hk]
        | next hy hp hk t =>
          simp (maxDischargeDepth := 8) only [go_sem, yields_fr hy, hw1]
          rw [KL_keep _ _ _ (by simp (maxDischargeDepth := 8) only [go_sem, hD, hp.1])]
          simp (maxDischargeDepth := 8) only [go_sem]
          exact ih' (xx + 1, _, _) ⟨by omega, hp, hk, t⟩ (by dsimp only; omega)
      · obtain rfl : xx = w.toNat := by omega
        have hw1 : IntKind.wrap .i64 ((yy : Int) + 1) = ((yy + 1 : Nat) : Int) := by rw [wrap_small (by omega) (by omega)]; rfl
        simp (maxDischargeDepth := 8) only [go_sem, show decide (((w.toNat : Nat) : Int) < w) = false from decide_eq_false (by omega), h2.1, h2.2.1, hb h2, hw1]
        rw [KL_keep _ _ _ (by simp (maxDischargeDepth := 8) only [go_sem, hD, h2.1])]
        simp (maxDischargeDepth := 8) only [go_sem]
        exact ih (yy + 1, _, _) ⟨by omega, h2, h3, by dsimp only; rw [Nat.add_mul, Nat.one_mul]; exact h4⟩ (by dsimp only; omega)
    · obtain rfl : yy = hh.toNat := by omega
      have e1 : L.drop (hh.toNat * w.toNat) = [] := List.drop_eq_nil_of_le (by rw [← hL]; simp [Nat.mul_comm])
      rw [e1] at h4
      cases h4
      simp (maxDischargeDepth := 8) only [go_sem, show decide (((hh.toNat : Nat) : Int) < hh) = false from decide_eq_false (by omega), back_rounds h3]
theorem may_sides {x y w hh : Int} (h : mayB x y w hh = true) : (1 ≤ w ∧ w ≤ 1048576) ∧ (1 ≤ hh ∧ hh ≤ 1048576) := by simp [mayB, sideB] at h; omega
abbrev cellV (a b : Int) : SV := .agg [.int .i64 a, .int .i64 b]
/-- A rectangle's cells, row by row. -/
def cellsP (x y w h : Int) : List (Int × Int) := if mayB x y w h then (List.range (w.toNat * h.toNat)).map fun n => (x + ((n % w.toNat : Nat) : Int), y + ((n / w.toNat : Nat) : Int)) else []
theorem cellsL_P (x y w h : Int) : cellsL x y w h = (cellsP x y w h).map fun c => [cellV c.1 c.2] := by
  unfold cellsL cellsP
  split
  · rw [List.map_map]; rfl
  · rfl
theorem may_last {x y w h : Int} (hm : mayB x y w h = true) : lastX x w = x + w - 1 ∧ lastX y h = y + h - 1 := by
  have h1 := may_in hm
  have h2 := may_sides hm
  unfold lastX
  rw [wrap_small (x := x + w) (by omega) (by omega), wrap_small (x := y + h) (by omega) (by omega), wrap_small (by omega) (by omega), wrap_small (by omega) (by omega)]
  exact ⟨rfl, rfl⟩
theorem has_iff {x y w h a b : Int} : hasB x y w h a b = true ↔ mayB x y w h = true ∧ x ≤ a ∧ a < x + w ∧ y ≤ b ∧ b < y + h := by
  unfold hasB
  by_cases hm : mayB x y w h = true
  · have := may_last hm
    simp only [hm, Bool.true_and, Bool.and_eq_true, decide_eq_true_eq, this.1, this.2, true_and]
    omega
  · simp [hm]
theorem cellsP_mem {x y w h a b : Int} : (a, b) ∈ cellsP x y w h ↔ hasB x y w h a b = true := by
  rw [has_iff]
  unfold cellsP
  by_cases hm : mayB x y w h = true
  · have hs := may_sides hm
    rw [if_pos hm]
    simp only [List.mem_map, List.mem_range, Prod.mk.injEq, hm, true_and]
    constructor
    · rintro ⟨n, h1, rfl, rfl⟩
      have l2 : n % w.toNat < w.toNat := Nat.mod_lt _ (by omega)
      have l3 : n / w.toNat < h.toNat := Nat.div_lt_of_lt_mul h1
      generalize n / w.toNat = q at *
      generalize n % w.toNat = r at *
      omega
    · rintro ⟨h1, h2, h3, h4⟩
      refine ⟨(b - y).toNat * w.toNat + (a - x).toNat, ?_, ?_, ?_⟩
      · have : ((b - y).toNat + 1) * w.toNat ≤ h.toNat * w.toNat := Nat.mul_le_mul_right _ (by omega)
        rw [Nat.add_mul] at this
        rw [Nat.mul_comm w.toNat]
        omega
      · rw [Nat.mul_comm (b - y).toNat, Nat.mul_add_mod, Nat.mod_eq_of_lt (by omega)]; omega
      · rw [Nat.mul_comm (b - y).toNat, Nat.mul_add_div (by omega), Nat.div_eq_of_lt (by omega)]; omega
  · simp [hm]
theorem frs_self (M : Mem) : M.frs [] M.esc = M := by cases M; rfl
/-- A range over a rectangle's cells, by an invariant. -/
theorem cells_range {D i d n : Nat} (hD : D < d) {x y w hh : Int} {M : Mem} (hB : boxAt d n x y w hh M) (I J : Nat → Mem → Option Nat → Prop) (h0 : I 0 M none)
    (step : ∀ k a b m u, (cellsP x y w hh)[k]? = some (a, b) → I k m u → ∃ m' e go, Yields tb (.st D i) [cellV a b] m m' e go ∧ boxAt d n x y w hh m' ∧ Noted M.hl m' (escMin u e) ∧ (go = true → I (k + 1) m' (escMin u e)) ∧ (go = false → J k m' (escMin u e))) :
    ∃ M' U, RF tb f_cell_Cells_1 [.yld (.st D i), .ptr (.hp n 0) 0] M = some (.tup [], M'.es (escMin M.esc U)) ∧ boxAt d n x y w hh M' ∧ Noted M.hl M' U ∧ (I (cellsP x y w hh).length M' U ∨ ∃ k, k < (cellsP x y w hh).length ∧ J k M' U) := by
  obtain ⟨M', U, go, hR, h1, h2⟩ := rounds_of (F := tb) (.st D i) (boxAt d n x y w hh) M.hl I J (cellsL x y w hh) 0 M none h0 (by
    intro k v m u hk hI
    rw [cellsL_P, List.getElem?_map] at hk
    simp only [Option.map_eq_some_iff] at hk
    obtain ⟨⟨a, b⟩, hk1, rfl⟩ := hk
    rw [Nat.zero_add] at hI ⊢
    exact step k a b m u hk1 hI)
  have hrun := r_cell_Cells_1 hD hB hR [] M.esc
  rw [frs_self] at hrun
  have hlen : (cellsL x y w hh).length = (cellsP x y w hh).length := by rw [cellsL_P, List.length_map]
  refine ⟨M', U, hrun, hR.last hB, hR.noted (.inl rfl), ?_⟩
  cases go with
  | true => left; have := h1 rfl; rwa [Nat.zero_add, hlen] at this
  | false => right; obtain ⟨k, hk, hJ⟩ := h2 rfl; rw [Nat.zero_add] at hJ; exact ⟨k, by omega, hJ⟩
/-- .. that looks for a cell, and leaves when it is found. -/
theorem cells_find {D i d n : Nat} (hD : D < d) {x y w hh : Int} {M M' : Mem} (hB : boxAt d n x y w hh M) (hB' : boxAt d n x y w hh M') (hl : M'.hl = M.hl) (he : M'.esc = M.esc) (p : Int → Int → Bool)
    (step : ∀ a b, hasB x y w hh a b = true → Yields tb (.st D i) [cellV a b] M (if p a b = true then M' else M) none (!p a b)) :
    RF tb f_cell_Cells_1 [.yld (.st D i), .ptr (.hp n 0) 0] M = some (.tup [], if (cellsP x y w hh).any (fun c => p c.1 c.2) = true then M' else M) := by
  obtain ⟨M2, U, h1, h2, h3, h4⟩ := cells_range (i := i) hD hB (fun k m u => m = M ∧ u = none ∧ ∀ j c, j < k → (cellsP x y w hh)[j]? = some c → p c.1 c.2 = false) (fun k m u => m = M' ∧ u = none ∧ ∃ c, (cellsP x y w hh)[k]? = some c ∧ p c.1 c.2 = true) ⟨rfl, rfl, fun j c h => by omega⟩ (by
    rintro k a b m u hk ⟨rfl, rfl, hI⟩
    have hm := step a b (cellsP_mem.1 (List.mem_of_getElem? hk))
    cases hp : p a b with
    | true => exact ⟨M', none, false, by simpa [hp] using hm, hB', .inl hl, fun h => (by cases h), fun _ => ⟨rfl, rfl, (a, b), hk, hp⟩⟩
    | false =>
      refine ⟨_, none, true, by simpa [hp] using hm, hB, .inl rfl, fun _ => ⟨rfl, rfl, fun j c hj hc => ?_⟩, fun h => (by cases h)⟩
      by_cases e : j = k
      · subst e; rw [hk] at hc; cases hc; exact hp
      · exact hI j c (by omega) hc)
  rw [h1]
  rcases h4 with ⟨rfl, rfl, hI⟩ | ⟨k, hk, rfl, rfl, c, hc, hp⟩
  · rw [if_neg, escMin_none]
    · cases M2; rfl
    · intro ha
      obtain ⟨c, hc, hp⟩ := List.any_eq_true.1 ha
      obtain ⟨j, hj, rfl⟩ := List.getElem_of_mem hc
      have := hI j _ hj (List.getElem?_eq_getElem hj)
      rw [this] at hp
      cases hp
  · rw [if_pos (List.any_eq_true.2 ⟨c, List.mem_of_getElem? hc, hp⟩), escMin_none, ← he]
    cases M2; rfl
/-- .. of a run that stands somewhere in a goal. -/
theorem cells_rangeZ {z : Option (SV × Mem)} {P : Prop} {D i d n : Nat} {M : Mem} (hz : RF tb f_cell_Cells_1 [.yld (.st D i), .ptr (.hp n 0) 0] M = z) (x y w hh : Int) (I J : Mem → Nat → Mem → Option Nat → Prop) (hD : D < d) (hB : boxAt d n x y w hh M) (h0 : I M 0 M none)
    (step : ∀ k a b m u, (cellsP x y w hh)[k]? = some (a, b) → I M k m u → ∃ m' e go, Yields tb (.st D i) [cellV a b] m m' e go ∧ boxAt d n x y w hh m' ∧ Noted M.hl m' (escMin u e) ∧ (go = true → I M (k + 1) m' (escMin u e)) ∧ (go = false → J M k m' (escMin u e)))
    (fin : ∀ M' U, z = some (.tup [], M'.es (escMin M.esc U)) → boxAt d n x y w hh M' → Noted M.hl M' U → (I M (cellsP x y w hh).length M' U ∨ ∃ k, k < (cellsP x y w hh).length ∧ J M k M' U) → P) : P := by
  obtain ⟨M', U, h1, h2, h3, h4⟩ := cells_range hD hB (I M) (J M) h0 step
  rw [hz] at h1
  exact fin M' U h1 h2 h3 h4
theorem cells_findG {D i d n : Nat} {x y w hh : Int} {M : Mem} (G : Mem → Mem) (p : Int → Int → Bool) (hD : D < d) (hB : boxAt d n x y w hh M) (hB' : boxAt d n x y w hh (G M)) (hl : (G M).hl = M.hl) (he : (G M).esc = M.esc)
    (step : ∀ a b, hasB x y w hh a b = true → Yields tb (.st D i) [cellV a b] M (if p a b = true then G M else M) none (!p a b)) :
    RF tb f_cell_Cells_1 [.yld (.st D i), .ptr (.hp n 0) 0] M = some (.tup [], if (cellsP x y w hh).any (fun c => p c.1 c.2) = true then G M else M) := cells_find hD hB hB' hl he p step
abbrev Rc := Int × Int × Int × Int
abbrev Bld := Int × Rc
abbrev rectR (r : Rc) : SV := rect r.1 r.2.1 r.2.2.1 r.2.2.2
abbrev bldV (b : Bld) : SV := .agg [.int .i64 b.1, .int .i64 b.2.1, .int .i64 b.2.2.1, .int .i64 b.2.2.2.1, .int .i64 b.2.2.2.2]
def rectF : Fl Rc := Fl.pair (Fl.int .i64) (Fl.pair (Fl.int .i64) (Fl.pair (Fl.int .i64) (Fl.int .i64)))
def bldF : Fl Bld := Fl.pair (Fl.int .i64) rectF
theorem rectF_even : rectF.Even := ⟨fun _ => rfl⟩
theorem bldF_even : bldF.Even := ⟨fun _ => rfl⟩
theorem rectF_ok (l : List Rc) : SV.cellsOk 0 0 (l.flatMap rectF.enc) = true := cellsOk_flat (fun _ => rfl) l
abbrev byteF : Fl Int := Fl.int .u8
theorem byteF_even : byteF.Even := ⟨fun _ => rfl⟩
theorem byteF_ok (l : List Int) : SV.cellsOk 0 0 (l.flatMap byteF.enc) = true := cellsOk_flat (fun _ => rfl) l
def hasR (r : Rc) (a b : Int) : Bool := hasB r.1 r.2.1 r.2.2.1 r.2.2.2 a b
section
variable {α β : Type} [DecidableEq α]
def alGet (k : α) : List (α × β) → Option β
  | [] => none
  | (a, v) :: r => if k = a then some v else alGet k r
def alSet (k : α) (x : β) : List (α × β) → List (α × β)
  | [] => [(k, x)]
  | (a, v) :: r => if k = a then (k, x) :: r else (a, v) :: alSet k x r
def alV (f : α → SV) (g : β → SV) (l : List (α × β)) : List (SV × SV) := l.map fun x => (f x.1, g x.2)
variable {f : α → SV} {g : β → SV} (hf : ∀ a b, seq (f a) (f b) = some (decide (a = b)))
include hf
theorem assoc_al (k : α) (l : List (α × β)) : assoc (f k) (alV f g l) = some ((alGet k l).map g) := by
  induction l with
  | nil => rfl
  | cons x r ih =>
    obtain ⟨a, v⟩ := x
    simp only [alV, List.map_cons, assoc, hf, alGet]
    by_cases e : k = a
    · simp [e]
    · simp only [e, decide_false, if_false]; exact ih
theorem set_al (k : α) (x : β) (l : List (α × β)) : assocSet (f k) (g x) (alV f g l) = alV f g (alSet k x l) := by
  induction l with
  | nil => rfl
  | cons y r ih =>
    obtain ⟨a, v⟩ := y
    simp only [alV, List.map_cons, assocSet, hf, alSet]
    by_cases e : k = a
    · simp [e]
    · simp only [e, decide_false, if_false, List.map_cons, List.cons.injEq, true_and]; exact ih
end
theorem alGet_set {α β : Type} [DecidableEq α] (k j : α) (x : β) (l : List (α × β)) : alGet j (alSet k x l) = if j = k then some x else alGet j l := by
  induction l with
  | nil => simp [alSet, alGet]
  | cons y r ih =>
    obtain ⟨a, v⟩ := y
    unfold alSet
    by_cases e : k = a
    · subst e
      simp only [if_true, alGet]
      split <;> rfl
    · simp only [if_neg e, alGet, ih]
      by_cases h1 : j = k
      · subst h1; simp [e]
      · simp only [if_neg h1]
theorem alV_len {α β : Type} (f : α → SV) (g : β → SV) (l : List (α × β)) : (alV f g l).length = l.length := by simp [alV]
abbrev intV (n : Int) : SV := .int .i64 n
abbrev cellW (c : Int × Int) : SV := cellV c.1 c.2
theorem seq_int (a b : Int) : seq (intV a) (intV b) = some (decide (a = b)) := by simp only [seq, if_true]; rfl
theorem seq_cell (a b : Int × Int) : seq (cellW a) (cellW b) = some (decide (a = b)) := by
  obtain ⟨a, c⟩ := a
  obtain ⟨b, d⟩ := b
  simp only [seq, seqs, if_true, Bool.and_true, Option.some.injEq]
  rw [Bool.eq_iff_iff]
  simp
theorem assoc_int {β : Type} (g : β → SV) (k : Int) (l : List (Int × β)) : assoc (.int .i64 k) (alV intV g l) = some ((alGet k l).map g) := assoc_al seq_int k l
theorem assoc_cell {β : Type} (g : β → SV) (a b : Int) (l : List ((Int × Int) × β)) : assoc (.agg [.int .i64 a, .int .i64 b]) (alV cellW g l) = some ((alGet (a, b) l).map g) := assoc_al seq_cell (a, b) l
structure Wd where
  w : Int
  h : Int
  tiles : List Int
  bl : List Bld
  dirty : List Rc
/-- The building that has a cell. -/
def atL (l : List Bld) (a b : Int) : Option Int := (l.find? fun x => hasR x.2 a b).map (·.1)
def Wd.tile (W : Wd) (a b : Int) : Int := (W.tiles[(b * W.w + a).toNat]?).getD 0
def Wd.has (W : Wd) (a b : Int) : Bool := hasB 0 0 W.w W.h a b
structure WP where
  k : Nat
  kb : Nat
  ko : Nat
  tv : SV
  dv : SV
  on : List ((Int × Int) × Int)
def WP.fp (p : WP) : List Nat := [p.k, p.kb, p.ko] ++ slFp p.tv ++ slFp p.dv
structure WorldAt (m : Mem) (p : WP) (W : Wd) : Prop where
  hd : m.get (.hp p.k 0) = some (.cells true [.int .i64 W.w, .int .i64 W.h, p.tv, .map (.hp p.kb 0), .map (.hp p.ko 0), p.dv])
  bt : m.get (.hp p.kb 0) = some (.map (alV intV rectR W.bl))
  ot : m.get (.hp p.ko 0) = some (.map (alV cellW intV p.on))
  tl : LiesD byteF m p.tv W.tiles
  dl : LiesD rectF m p.dv W.dirty
  on : ∀ a b, alGet (a, b) p.on = atL W.bl a b
  w1 : 1 ≤ W.w ∧ W.w ≤ 128
  h1 : 1 ≤ W.h ∧ W.h ≤ 128
  len : (W.tiles.length : Int) = W.w * W.h
  nd : p.fp.Nodup
section
variable {m X : Mem} {p : WP} {W : Wd} (hW : WorldAt m p W) (hX : HpSub m X)
include hW hX
theorem WorldAt.sub : WorldAt X p W := ⟨hX _ _ _ hW.hd, hX _ _ _ hW.bt, hX _ _ _ hW.ot, hW.tl.sub hX, hW.dl.sub hX, hW.on, hW.w1, hW.h1, hW.len, hW.nd⟩
theorem WorldAt.ld (off : Nat) (n : Option Nat) : X.load (.hp p.k 0) off n = partv [.int .i64 W.w, .int .i64 W.h, p.tv, .map (.hp p.kb 0), .map (.hp p.ko 0), p.dv] off n := by rw [load_get, hX _ _ _ hW.hd]
theorem WorldAt.gb : X.get (.hp p.kb 0) = some (.map (alV intV rectR W.bl)) := hX _ _ _ hW.bt
theorem WorldAt.go : X.get (.hp p.ko 0) = some (.map (alV cellW intV p.on)) := hX _ _ _ hW.ot
end
theorem r_grid_World_is {m : Mem} {p : WP} {W : Wd} (hW : WorldAt m p W) {X : Mem} (hX : HpSub m X) (hw : X.Wf) : RF tb f_grid_World_is [.ptr (.hp p.k 0) 0] X = some (.bool true, X) := by
  rw [RF_go t_grid_World_is _ _ rfl]
  simp (maxDischargeDepth := 8) only [go_sem, s_grid_World_is, hw, hX, hW.ld]
theorem r_grid_World_All {m : Mem} {p : WP} {W : Wd} (hW : WorldAt m p W) {X : Mem} (hX : HpSub m X) (hw : X.Wf) : RF tb f_grid_World_All [.ptr (.hp p.k 0) 0] X = some (rect 0 0 W.w W.h, X) := by
  rw [RF_go t_grid_World_All _ _ rfl]
  simp (maxDischargeDepth := 8) only [go_sem, s_grid_World_All, hw, hX, hW.ld, r_grid_World_is hW]
theorem r_grid_World_At {m : Mem} {p : WP} {W : Wd} (hW : WorldAt m p W) {X : Mem} (hX : HpSub m X) (hw : X.Wf) (a b : Int) : RF tb f_grid_World_At [.ptr (.hp p.k 0) 0, .agg [.int .i64 a, .int .i64 b]] X = some (.tup [.int .i64 ((atL W.bl a b).getD 0), .bool (atL W.bl a b).isSome], X) := by
  rw [RF_go t_grid_World_At _ _ rfl]
  simp (maxDischargeDepth := 8) only [go_sem, s_grid_World_At, hw, hX, hW.ld, r_grid_World_is hW, hW.go, assoc_cell, hW.on]
  cases atL W.bl a b <;> simp (maxDischargeDepth := 8) only [go_sem, hw]
theorem has_in {x y w h a b : Int} (hh : hasB x y w h a b = true) : mayB x y w h = true ∧ (x ≤ a ∧ a < x + w) ∧ (y ≤ b ∧ b < y + h) := by
  have := has_iff.1 hh
  exact ⟨this.1, ⟨this.2.1, this.2.2.1⟩, this.2.2.2.1, this.2.2.2.2⟩
theorem idx_lt' {W : Wd} (h1 : 1 ≤ W.w ∧ W.w ≤ 128) (h2 : 1 ≤ W.h ∧ W.h ≤ 128) (h3 : (W.tiles.length : Int) = W.w * W.h) {a b : Int} (hh : W.has a b = true) : 0 ≤ a ∧ a < W.w ∧ 0 ≤ b ∧ b < W.h ∧ 0 ≤ b * W.w + a ∧ b * W.w + a < W.tiles.length ∧ b * W.w ≤ 16384 ∧ 0 ≤ b * W.w ∧ W.tiles.length ≤ 16384 := by
  have := has_in hh
  have e1 : b * W.w ≤ (W.h - 1) * W.w := Int.mul_le_mul_of_nonneg_right (by omega) (by omega)
  have e2 : 0 ≤ b * W.w := Int.mul_nonneg (by omega) (by omega)
  have e3 : (W.h - 1) * W.w = W.w * W.h - W.w := by rw [Int.sub_mul, Int.mul_comm]; omega
  have e4 : W.w * W.h ≤ 128 * 128 := Int.mul_le_mul h1.2 h2.2 (by omega) (by omega)
  omega
theorem idx_lt {W : Wd} {m : Mem} {p : WP} (hW : WorldAt m p W) {a b : Int} (hh : W.has a b = true) : 0 ≤ a ∧ a < W.w ∧ 0 ≤ b ∧ b < W.h ∧ 0 ≤ b * W.w + a ∧ b * W.w + a < W.tiles.length ∧ b * W.w ≤ 16384 ∧ 0 ≤ b * W.w ∧ W.tiles.length ≤ 16384 := idx_lt' hW.w1 hW.h1 hW.len hh
theorem _root_.Go.Sh.LiesD.iaddrB {m : Mem} {v : SV} {l : List Int} (h : LiesD byteF m v l) {i : Int} (h0 : 0 ≤ i) (hi : i < l.length) (k : IntKind) (m' : Mem) : iaddrV 1 v (.int k i) m' = some (.ptr (.hp (slN v) (slW v)) (slO v + i.toNat), m') := by
  have := LiesD.iaddr h (i := i.toNat) (by omega) k m'
  rw [show byteF.sz = 1 from rfl, Nat.mul_one, Int.toNat_of_nonneg h0] at this
  exact this
theorem _root_.Go.Sh.LiesD.loadB {m : Mem} {v : SV} {l : List Int} (h : LiesD byteF m v l) {i : Nat} {a : Int} (hi : l[i]? = some a) {X : Mem} (hX : HpSub m X) : X.load (.hp (slN v) (slW v)) (slO v + i) none = some (.int .u8 a) := by
  have := LiesD.load1 byteF_even (h.sub hX) hi (j := 0) (by decide)
  rw [show byteF.sz = 1 from rfl, Nat.mul_one, Nat.add_zero] at this
  exact this
theorem wrap_u8i {x : Int} (h1 : 0 ≤ x) (h2 : x ≤ 255) : IntKind.wrap .i64 x = x := wrap_small (by omega) (by omega)
def Wd.Good (W : Wd) : Prop := ∀ x ∈ W.tiles, 0 ≤ x ∧ x < 4
theorem tile_in {W : Wd} (hg : W.Good) (a b : Int) : 0 ≤ W.tile a b ∧ W.tile a b < 4 := by
  unfold Wd.tile
  cases h : W.tiles[(b * W.w + a).toNat]? with
  | none => simp
  | some x => exact hg x (List.mem_of_getElem? h)
theorem r_grid_World_Terrain {m : Mem} {p : WP} {W : Wd} (hW : WorldAt m p W) (hg : W.Good) {X : Mem} (hX : HpSub m X) (hw : X.Wf) (a b : Int) : RF tb f_grid_World_Terrain [.ptr (.hp p.k 0) 0, .agg [.int .i64 a, .int .i64 b]] X = some (.tup [.int .i64 (if W.has a b then W.tile a b else 0), .bool (W.has a b)], X) := by
  rw [RF_go t_grid_World_Terrain _ _ rfl]
  simp (maxDischargeDepth := 8) only [go_sem, s_grid_World_Terrain, hw, hX, hW.ld, r_grid_World_All hW, r_cell_Has]
  cases hh : W.has a b with
  | false =>
    have hh' : hasB 0 0 W.w W.h a b = false := hh
    simp (maxDischargeDepth := 8) only [go_sem, hw, hh']
  | true =>
    have hh' : hasB 0 0 W.w W.h a b = true := hh
    have h1 := idx_lt hW hh
    have hlt : (b * W.w + a).toNat < W.tiles.length := by omega
    have hel : W.tiles[(b * W.w + a).toNat]? = some W.tiles[(b * W.w + a).toNat] := List.getElem?_eq_getElem hlt
    have ht : W.tile a b = W.tiles[(b * W.w + a).toNat] := by simp only [Wd.tile, hel, Option.getD_some]
    have h3 := tile_in hg a b
    rw [← ht] at hel
    simp (maxDischargeDepth := 8) only [go_sem, hw, hh', hX, hW.ld, wrap_small (x := b * W.w) (by omega) (by omega), wrap_small (x := b * W.w + a) (by omega) (by omega), hW.tl.iaddrB h1.2.2.2.2.1 h1.2.2.2.2.2.1, hW.tl.loadB hel, wrap_u8i h3.1 (show W.tile a b ≤ 255 by omega)]
def bmayB (b : Bld) (q : Rc) : Bool := decide (b.1 ≥ 1) && decide (b.1 ≤ 2147483647) && decide (b.2.2.2.1 ≤ 8) && decide (b.2.2.2.2 ≤ 8) && withinB b.2.1 b.2.2.1 b.2.2.2.1 b.2.2.2.2 q.1 q.2.1 q.2.2.1 q.2.2.2
theorem r_grid_may (X : Mem) (hw : X.Wf) (id x y w hh a b c d : Int) : RF tb f_grid_may [.agg [.int .i64 id, .int .i64 x, .int .i64 y, .int .i64 w, .int .i64 hh], .agg [.int .i64 a, .int .i64 b, .int .i64 c, .int .i64 d]] X = some (.bool (bmayB (id, x, y, w, hh) (a, b, c, d)), X) := by
  rw [RF_go t_grid_may _ _ rfl]
  simp (maxDischargeDepth := 8) only [go_sem, s_grid_may, hw, r_cell_Within]
  repeat' ((first | rw [KG_bool] | rw [KC_bool]); split <;> rename_i h <;> (try simp only [Bool.not_eq_true, Bool.not_not, Bool.not_eq_eq_eq_not, Bool.not_true, Bool.not_false] at h) <;> simp (maxDischargeDepth := 8) only [go_sem, h, hw, r_cell_Within])
  all_goals simp_all [bmayB]
  all_goals (intros; omega)
theorem _root_.Go.Sh.LiesD.iaddr5 {m : Mem} {v : SV} {l : List Bld} (h : LiesD bldF m v l) {i : Nat} (hi : i < l.length) (k : IntKind) (m' : Mem) : iaddrV 5 v (.int k (i : Int)) m' = some (.ptr (.hp (slN v) (slW v)) (slO v + i * 5), m') := LiesD.iaddr h hi k m'
theorem _root_.Go.Sh.LiesD.load5 {m : Mem} {v : SV} {l : List Bld} (h : LiesD bldF m v l) {i : Nat} {a : Bld} (hi : l[i]? = some a) {X : Mem} (hX : HpSub m X) : X.load (.hp (slN v) (slW v)) (slO v + i * 5) (some 5) = some (bldV a) := LiesD.loadX bldF_even (by decide) h hi hX
def Wd.all (W : Wd) : Rc := (0, 0, W.w, W.h)
def Wd.full (W : Wd) (r : Rc) : Bool := (cellsP r.1 r.2.1 r.2.2.1 r.2.2.2).any fun c => (atL W.bl c.1 c.2).isSome
def Wd.may (W : Wd) (b : Bld) : Int := if bmayB b W.all = false then 1 else if (alGet b.1 W.bl).isSome then 8 else if W.bl.length ≥ 256 then 2 else if W.full b.2 then 6 else 0
theorem ge_nat (n : Nat) : decide ((n : Int) ≥ 256) = decide (n ≥ 256) := by rw [Bool.eq_iff_iff]; simp; omega
theorem getD_rect (o : Option Rc) : ∃ a b c d, (o.map rectR).getD (rect 0 0 0 0) = rect a b c d := by cases o <;> exact ⟨_, _, _, _, rfl⟩
theorem map_some' {α β : Type} (o : Option α) (f : α → β) : (o.map f).isSome = o.isSome := by cases o <;> rfl
theorem r_grid_World_May {m : Mem} {p : WP} {W : Wd} (hW : WorldAt m p W) {X : Mem} (hX : HpSub m X) (hw : X.Wf) (id x y w hh : Int) : RF tb f_grid_World_May [.ptr (.hp p.k 0) 0, bldV (id, x, y, w, hh)] X = some (.int .i64 (W.may (id, x, y, w, hh)), X) := by
  rw [RF_go t_grid_World_May _ _ rfl, push_hp]
  generalize hH : X.heap = H
  simp (maxDischargeDepth := 8) only [go_sem, s_grid_World_May, hw, hX, hH, hW.ld, r_grid_World_is hW, r_grid_World_All hW, r_grid_may]
  cases h1 : bmayB (id, x, y, w, hh) (0, 0, W.w, W.h) with
  | false =>
    simp (maxDischargeDepth := 8) only [go_sem, hw, hH]
    have e : W.may (id, x, y, w, hh) = 1 := by unfold Wd.may; exact if_pos h1
    rw [e]
  | true =>
    have h1' : ¬ bmayB (id, x, y, w, hh) W.all = false := by rw [show bmayB (id, x, y, w, hh) W.all = true from h1]; simp
    simp (maxDischargeDepth := 8) only [go_sem, hw, hX, hH, hW.ld, hW.gb, assoc_int, map_some']
    obtain ⟨a, b, c, d, hg⟩ := getD_rect (alGet id W.bl)
    simp (maxDischargeDepth := 8) only [go_sem, hw, hX, hH, hg]
    cases h2 : (alGet id W.bl).isSome with
    | true =>
      simp (maxDischargeDepth := 8) only [go_sem, hw, hH]
      have e : W.may (id, x, y, w, hh) = 8 := by unfold Wd.may; rw [if_neg h1', if_pos h2]
      rw [e]
    | false =>
      simp (maxDischargeDepth := 8) only [go_sem, hw, hX, hH, hW.ld, hW.gb, alV_len, ge_nat]
      cases h3 : decide (W.bl.length ≥ 256) with
      | true =>
        simp (maxDischargeDepth := 8) only [go_sem, hw, hH]
        have e : W.may (id, x, y, w, hh) = 2 := by unfold Wd.may; rw [if_neg h1', if_neg (by simp [h2]), if_pos (of_decide_eq_true h3)]
        rw [e]
      | false =>
        simp (maxDischargeDepth := 8) only [go_sem, hw, hX, hH, r_cell_Cells]
        rw [cells_findG (fun M => (M.sc X.dep 2 [.int .i64 6]).lp (.st X.dep 4) .done (some .ret)) (fun a b => (atL W.bl a b).isSome) (d := X.dep + 1) (x := x) (y := y) (w := w) (hh := hh) (by omega)]
        case hB => exact ⟨rfl, by simp (maxDischargeDepth := 8) only [go_sem, hw], by simp (maxDischargeDepth := 8) only [go_sem, hapGet]⟩
        case hB' => exact ⟨by simp (maxDischargeDepth := 8) only [go_sem, hw], by simp (maxDischargeDepth := 8) only [go_sem, hw], by simp (maxDischargeDepth := 8) only [go_sem, hapGet]⟩
        case hl => simp (maxDischargeDepth := 8) only [go_sem]
        case he => simp (maxDischargeDepth := 8) only [go_sem]
        case step =>
          intro a b hab fs e
          rw [RV_go (l := ⟨.ready, none, _, _, _, _⟩) _ _ _ (by simp (maxDischargeDepth := 8) only [go_sem]; rfl) rfl rfl (by simp (maxDischargeDepth := 8) only [go_sem, hw])]
          simp (maxDischargeDepth := 8) only [go_sem, hw, hX, hH, hW.ld, hW.go, assoc_cell, hW.on]
          cases atL W.bl a b <;> simp (maxDischargeDepth := 8) only [go_sem, hw]
        cases h4 : (cellsP x y w hh).any fun c => (atL W.bl c.1 c.2).isSome with
        | true =>
          simp (maxDischargeDepth := 8) only [go_sem, hw, hH]
          have e : W.may (id, x, y, w, hh) = 6 := by unfold Wd.may; rw [if_neg h1', if_neg (by simp [h2]), if_neg (of_decide_eq_false h3)]; exact if_pos h4
          rw [e]
        | false =>
          simp (maxDischargeDepth := 8) only [go_sem, hw, hH]
          have e : W.may (id, x, y, w, hh) = 0 := by unfold Wd.may; rw [if_neg h1', if_neg (by simp [h2]), if_neg (of_decide_eq_false h3), if_neg (by unfold Wd.full; simp [h4])]
          rw [e]
def Wd.place (W : Wd) (b : Bld) : Wd := if W.may b = 0 then { W with bl := W.bl ++ [b], dirty := W.dirty ++ [b.2] } else W
theorem alSet_new {α β : Type} [DecidableEq α] {k : α} {x : β} {l : List (α × β)} (h : alGet k l = none) : alSet k x l = l ++ [(k, x)] := by
  induction l with
  | nil => rfl
  | cons y r ih =>
    obtain ⟨a, v⟩ := y
    unfold alGet at h
    unfold alSet
    split at h
    · cases h
    · rename_i e
      rw [if_neg e, ih h]; rfl
/-- Cells that are given a building. -/
def onAdd (l : List (Int × Int)) (id : Int) (on : List ((Int × Int) × Int)) : List ((Int × Int) × Int) := l.foldl (fun o c => alSet c id o) on
theorem onAdd_get (id : Int) (c : Int × Int) : ∀ (l : List (Int × Int)) (on : List ((Int × Int) × Int)), alGet c (onAdd l id on) = if c ∈ l then some id else alGet c on
  | [], on => by simp [onAdd]
  | a :: l, on => by
    show alGet c (onAdd l id (alSet a id on)) = _
    rw [onAdd_get id c l, alGet_set]
    by_cases h1 : c ∈ l
    · simp [h1]
    · by_cases h2 : c = a
      · simp [h2]
      · simp [h1, h2]
theorem onAdd_succ {l : List (Int × Int)} {k : Nat} {c : Int × Int} (h : l[k]? = some c) (id : Int) (on : List ((Int × Int) × Int)) : onAdd (l.take (k + 1)) id on = alSet c id (onAdd (l.take k) id on) := by
  unfold onAdd
  rw [List.take_add_one, h]
  simp
theorem may0 {W : Wd} {b : Bld} (h : W.may b = 0) : bmayB b W.all = true ∧ alGet b.1 W.bl = none ∧ W.bl.length < 256 ∧ W.full b.2 = false := by
  unfold Wd.may at h
  cases h1 : bmayB b W.all with
  | false => rw [if_pos h1] at h; cases h
  | true =>
    rw [if_neg (by simp [h1])] at h
    cases h2 : alGet b.1 W.bl with
    | some x => rw [if_pos (by simp [h2])] at h; cases h
    | none =>
      rw [if_neg (by simp [h2])] at h
      by_cases h3 : W.bl.length ≥ 256
      · rw [if_pos h3] at h; cases h
      · rw [if_neg h3] at h
        cases h4 : W.full b.2 with
        | true => rw [if_pos h4] at h; cases h
        | false => exact ⟨rfl, rfl, by omega, rfl⟩
theorem full_at {W : Wd} {r : Rc} (h : W.full r = false) {a b : Int} (hh : hasR r a b = true) : atL W.bl a b = none := by
  unfold Wd.full at h
  have := List.any_eq_false.1 h (a, b) (cellsP_mem.2 hh)
  simpa using this
theorem atL_app {l : List Bld} {b : Bld} (a c : Int) : atL (l ++ [b]) a c = (atL l a c).or (if hasR b.2 a c then some b.1 else none) := by
  unfold atL
  rw [List.find?_append]
  cases l.find? fun x => hasR x.2 a c with
  | some x => rfl
  | none =>
    simp only [Option.none_or, Option.map_none, List.find?_cons, List.find?_nil]
    cases hasR b.2 a c <;> rfl
structure WP.Apart (p : WP) : Prop where
  a : ¬ p.kb = p.k
  b : ¬ p.ko = p.k
  c : ¬ p.kb = p.ko
  d : ¬ p.ko = p.kb
  a' : ¬ p.k = p.kb
  b' : ¬ p.k = p.ko
  t : ∀ i ∈ slFp p.tv, i ≠ p.k ∧ i ≠ p.kb ∧ i ≠ p.ko ∧ i ∉ slFp p.dv
  e : ∀ i ∈ slFp p.dv, i ≠ p.k ∧ i ≠ p.kb ∧ i ≠ p.ko
theorem WP.apart {p : WP} (h : p.fp.Nodup) : p.Apart := by
  simp only [WP.fp, List.cons_append, List.nil_append, List.nodup_cons, List.mem_cons, List.mem_append, not_or, List.nodup_append] at h
  obtain ⟨⟨h1, h2, h3, h4⟩, ⟨h5, h6, h7⟩, ⟨h8, h9⟩, h10, h11, h12⟩ := h
  exact ⟨fun e => h1 e.symm, fun e => h2 e.symm, h5, fun e => h5 e.symm, h1, h2, fun i hi => ⟨fun e => h3 (e ▸ hi), fun e => h6 (e ▸ hi), fun e => h8 (e ▸ hi), fun h => h12 i hi i h rfl⟩, fun i hi => ⟨fun e => h4 (e ▸ hi), fun e => h7 (e ▸ hi), fun e => h9 (e ▸ hi)⟩⟩
theorem WorldAt.congr {A B : Hp} {p : WP} {W : Wd} (h : WorldAt (Hm A) p W) (hc : ∀ i ∈ p.fp, B[i]? = A[i]?) : WorldAt (Hm B) p W :=
  ⟨(hget_congr (hc _ (by simp [WP.fp])) 0).trans h.hd, (hget_congr (hc _ (by simp [WP.fp])) 0).trans h.bt, (hget_congr (hc _ (by simp [WP.fp])) 0).trans h.ot,
    h.tl.congr fun i hi => hc i (by simp [WP.fp, hi]), h.dl.congr fun i hi => hc i (by simp [WP.fp, hi]), h.on, h.w1, h.h1, h.len, h.nd⟩
theorem WorldAt.lt {H : Hp} {p : WP} {W : Wd} (h : WorldAt (Hm H) p W) : ∀ i ∈ p.fp, i < H.length := by
  intro i hi
  simp only [WP.fp, List.cons_append, List.nil_append, List.mem_cons, List.mem_append] at hi
  rcases hi with rfl | rfl | rfl | hi | hi
  · exact hget_lt h.hd
  · exact hget_lt h.bt
  · exact hget_lt h.ot
  · exact h.tl.fp i hi
  · exact h.dl.fp i hi
theorem on_place {W : Wd} {on : List ((Int × Int) × Int)} {b : Bld} (h : ∀ a c, alGet (a, c) on = atL W.bl a c) (hf : W.full b.2 = false) (a c : Int) : alGet (a, c) (onAdd (cellsP b.2.1 b.2.2.1 b.2.2.2.1 b.2.2.2.2) b.1 on) = atL (W.bl ++ [b]) a c := by
  rw [onAdd_get, atL_app, h]
  cases hh : hasR b.2 a c with
  | true => rw [if_pos (cellsP_mem.2 hh), full_at hf hh]; rfl
  | false =>
    rw [if_neg (fun hc => by rw [show hasR b.2 a c = true from cellsP_mem.1 hc] at hh; cases hh)]
    cases atL W.bl a c <;> rfl
structure WorldOwn (H : Hp) (p : WP) (W : Wd) : Prop where
  at_ : WorldAt (Hm H) p W
  own : Own rectF H p.dv W.dirty
theorem WorldOwn.congr {A B : Hp} {p : WP} {W : Wd} (h : WorldOwn A p W) (hc : ∀ i ∈ p.fp, B[i]? = A[i]?) : WorldOwn B p W :=
  ⟨h.at_.congr hc, h.own.congr fun i hi => hc i (by simp [WP.fp, hi])⟩
theorem r_grid_World_Place_no {m : Mem} {p : WP} {W : Wd} (hW : WorldAt m p W) {X : Mem} (hX : HpSub m X) (hw : X.Wf) (id x y w hh : Int) (h0 : ¬ W.may (id, x, y, w, hh) = 0) :
    RF tb f_grid_World_Place [.ptr (.hp p.k 0) 0, bldV (id, x, y, w, hh)] X = some (.int .i64 (W.may (id, x, y, w, hh)), X) := by
  rw [RF_go t_grid_World_Place _ _ rfl]
  simp (maxDischargeDepth := 8) only [go_sem, s_grid_World_Place, hw, hX, r_grid_World_May hW, show (W.may (id, x, y, w, hh) != 0) = true from bne_iff_ne.2 h0]
theorem r_grid_World_Place {X : Mem} {p : WP} {W : Wd} (hO : WorldOwn X.heap p W) (hw : X.Wf) (hhb : ∀ n ∈ p.fp, X.hb ≤ n) (hd : W.dirty.length ≤ 1073741824) (id x y w hh : Int) (h0 : W.may (id, x, y, w, hh) = 0) :
    ∃ H' u p', RF tb f_grid_World_Place [.ptr (.hp p.k 0) 0, bldV (id, x, y, w, hh)] X = some (.int .i64 0, (X.hp H').es (escMin X.esc u)) ∧ WorldOwn H' p' (W.place (id, x, y, w, hh)) ∧ Keep p.fp X.heap H' ∧ p'.k = p.k ∧ (∀ i ∈ p'.fp, i ∈ p.fp ∨ X.heap.length ≤ i) ∧ (u = none ∨ u = some p.k) := by
  obtain ⟨hW, hdo⟩ := hO
  rw [RF_go t_grid_World_Place _ _ rfl, push_hp]
  generalize hH : X.heap = H at *
  obtain ⟨m1, m2, m3, m4⟩ := may0 h0
  have ap := WP.apart hW.nd
  have ghd : hget H p.k 0 = _ := hW.hd
  have gbt : hget H p.kb 0 = _ := hW.bt
  have got : hget H p.ko 0 = _ := hW.ot
  have b1 : X.hb ≤ p.kb := hhb _ (by simp [WP.fp])
  have b3 : X.hb ≤ p.ko := hhb _ (by simp [WP.fp])
  have eset : assocSet (.int .i64 id) (.agg [.int .i64 x, .int .i64 y, .int .i64 w, .int .i64 hh]) (alV intV rectR W.bl) = alV intV rectR (W.bl ++ [(id, x, y, w, hh)]) := by
    rw [← alSet_new (x := (x, y, w, hh)) m2]
    exact set_al (g := rectR) seq_int id (x, y, w, hh) W.bl
  obtain ⟨H1, hH1⟩ : ∃ H1, H.set p.kb (0, SBk.map (alV intV rectR (W.bl ++ [(id, x, y, w, hh)]))) = H1 := ⟨_, rfl⟩
  have len1 : H1.length = H.length := by rw [← hH1, List.length_set]
  have g2 : hget H1 p.kb 0 = some (SBk.map (alV intV rectR (W.bl ++ [(id, x, y, w, hh)]))) := by rw [← hH1, hget_set_eq (hget_lt gbt)]; rfl
  have k1 : Keep [p.kb] H H1 := by rw [← hH1]; exact Keep.set (by simp) _ _
  have g1 := k1.get ghd (by simp [ap.a'])
  have g3 := k1.get got (by simp [ap.d])
  simp (maxDischargeDepth := 8) only [go_sem, s_grid_World_Place, hw, hH, r_grid_World_May hW, h0, ghd, gbt, assoc_int, eset, b1, hH1, r_cell_Cells]
  generalize hcs : (SBk.cells true [SV.int IntKind.i64 x, SV.int IntKind.i64 y, SV.int IntKind.i64 w, SV.int IntKind.i64 hh]) = box
  generalize hz : RF tb f_cell_Cells_1 _ _ = z
  refine cells_rangeZ hz x y w hh (d := X.dep + 1)
    (fun M k m u => u = none ∧ ∃ Hk, m = M.hp Hk ∧ hget Hk p.ko 0 = some (.map (alV cellW intV (onAdd ((cellsP x y w hh).take k) id p.on))) ∧ Keep [p.ko] (H1 ++ [(0, box)]) Hk ∧ Hk.length = H1.length + 1) (fun _ _ _ _ => False) (Nat.lt_succ_self _) ?_ ?_ ?_ ?_
  · refine ⟨rfl, by simp (maxDischargeDepth := 8) only [go_sem, hw], ?_⟩; subst hcs; simp (maxDischargeDepth := 8) only [go_sem, hapGet]
  · exact ⟨rfl, _, rfl, hget_app_some _ g3, Keep.refl _ _, by show (H1 ++ [(0, box)]).length = _; rw [List.length_append]; rfl⟩
  · rintro k a b m u hk ⟨rfl, Hk, hm, f1, f2, f3⟩
    have g1' := f2.get (hget_app_some [(0, box)] g1) (by simp [ap.b'])
    have hbx : hget Hk H1.length 0 = some box := f2.get (by rw [hget_new0]; rfl) (by simp; have := hget_lt g3; omega)
    have lko : p.ko < H1.length := hget_lt g3
    have eS : assocSet (.agg [.int .i64 a, .int .i64 b]) (.int .i64 id) (alV cellW intV (onAdd ((cellsP x y w hh).take k) id p.on)) = alV cellW intV (onAdd ((cellsP x y w hh).take (k + 1)) id p.on) := by
      rw [onAdd_succ hk]
      exact set_al (g := intV) seq_cell (a, b) id _
    refine ⟨m.hp (Hk.set p.ko (0, .map (alV cellW intV (onAdd ((cellsP x y w hh).take (k + 1)) id p.on)))), none, true, ?_, ?_, .inl ?_, fun _ => ⟨rfl, _, by rw [hm]; rfl, ?_, ?_, ?_⟩, fun h => by cases h⟩
    · subst hm
      intro fs e
      rw [RV_go (l := ⟨.ready, none, _, _, _, _⟩) _ _ _ (by simp (maxDischargeDepth := 8) only [go_sem]; rfl) rfl rfl (by simp (maxDischargeDepth := 8) only [go_sem, hw])]
      simp (maxDischargeDepth := 8) only [go_sem, hw, hH, g1', f1, assoc_cell, eS, b3]
    · subst hm
      refine ⟨by simp (maxDischargeDepth := 8) only [go_sem], by simp (maxDischargeDepth := 8) only [go_sem, hw], ?_⟩
      subst hcs
      simp (maxDischargeDepth := 8) only [go_sem, hget_set_ne (Nat.ne_of_lt lko), hbx]
    · subst hm; simp (maxDischargeDepth := 8) only [go_sem, f3]; simp [f3]
    · rw [hget_set_eq (by omega)]; rfl
    · exact f2.trans (Keep.set (by simp) _ _)
    · rw [List.length_set, f3]
  · rintro M' U rfl hb hn (⟨rfl, Hk, hm, f1, f2, f3⟩ | ⟨_, _, h⟩)
    · subst hm
      have g1' := f2.get (hget_app_some [(0, box)] g1) (by simp [ap.b'])
      rw [List.take_length] at f1
      have g2' := f2.get (hget_app_some [(0, box)] g2) (by simp [ap.c])
      have kk : Keep [p.kb, p.ko] H (Hk ++ [(0, .cells true [.int .i64 x, .int .i64 y, .int .i64 w, .int .i64 hh])]) := ((k1.weak (by simp)).trans ((Keep.app _ _ _).trans (f2.weak (by simp)))).trans (Keep.app _ _ _)
      have hdo' : Own rectF (Hk ++ [(0, .cells true [.int .i64 x, .int .i64 y, .int .i64 w, .int .i64 hh])]) p.dv W.dirty := hdo.keep kk (fun i hi => by have := ap.e i hi; simp [this.2])
      have hy : LiesD rectF (Hm (Hk ++ [(0, .cells true [.int .i64 x, .int .i64 y, .int .i64 w, .int .i64 hh])])) (.sl (.hp Hk.length 0) 0 1 (some 1) 4) [(x, y, w, hh)] := (own_new rectF_even Hk [(x, y, w, hh)] (some 1)).lies rectF_even
      obtain ⟨v', H2, ha, o1, o2, o3, ⟨o4, o5, o6⟩, o7⟩ := app_own rectF_even (by decide) rectF_ok (fun l => by induction l with | nil => rfl | cons a l ih => simp only [List.flatMap_cons]; exact ih) hdo' hy (bytes := 32) (by simp only [List.length_singleton, two48]; omega) (by simp only [List.length_singleton, two48]; omega) X (fun i hi => hhb i (by simp [WP.fp, hi]))
      have ha' := ha [.int .i64 0, .int .i64 0, .int .i64 0, .int .i64 0] rfl _ (hdo.aw (aw := fun b => decide ¬Bk.st X.dep 0 = b) (by simp))
      change ∀ f e, appV 4 32 _ _ _ _ _ = _ at ha'
      have g1'' := o2.get (hget_app_some [(0, .cells true [.int .i64 x, .int .i64 y, .int .i64 w, .int .i64 hh])] g1') (fun hi => (ap.e _ hi).1 rfl)
      have b0 : X.hb ≤ p.k := hhb _ (by simp [WP.fp])
      simp (maxDischargeDepth := 8) only [go_sem, hw, g1', ha', o4, o5, o6, g1'', b0]
      obtain ⟨H3, hH3⟩ : ∃ H3, H2.set p.k (0, SBk.cells true [.int .i64 W.w, .int .i64 W.h, p.tv, .map (.hp p.kb 0), .map (.hp p.ko 0), v']) = H3 := ⟨_, rfl⟩
      rw [hH3]
      have K3 : Keep (p.k :: slFp p.dv) (Hk ++ [(0, .cells true [.int .i64 x, .int .i64 y, .int .i64 w, .int .i64 hh])]) H3 := (o2.weak (fun n hn _ => List.mem_cons_of_mem _ hn)).trans (by rw [← hH3]; exact Keep.set (by simp) _ _)
      have KK : Keep p.fp H H3 := (kk.weak (by simp [WP.fp])).trans' K3 (by intro n hn _; simp only [List.mem_cons] at hn; simp only [WP.fp, List.mem_append, List.mem_cons]; rcases hn with rfl | hn <;> simp [*])
      have KT : Keep ([p.k, p.kb, p.ko] ++ slFp p.dv) H H3 := (kk.weak (by simp)).trans' K3 (by intro n hn _; simp only [List.mem_cons] at hn; simp only [List.mem_append, List.mem_cons]; rcases hn with rfl | hn <;> simp [*])
      have hHl : X.hl = H.length := by rw [← hH]; rfl
      have lfp := hW.lt
      have l0 := lfp p.k (by simp [WP.fp])
      have lk : H.length ≤ (Hk ++ [(0, SBk.cells true [.int .i64 x, .int .i64 y, .int .i64 w, .int .i64 hh])]).length := by simp [f3]; omega
      have o3' : ∀ i ∈ slFp v', i ∈ slFp p.dv ∨ H.length ≤ i := fun i hi => (o3 i hi).imp_right fun h => Nat.le_trans lk h
      have kv : ∀ i ∈ slFp v', ¬ i = p.k := by
        intro i hi e
        rcases o3' i hi with h1 | h1
        · exact (ap.e i h1).1 e
        · omega
      have hH2l : p.k < H2.length := hget_lt g1''
      have nd' : ({ p with dv := v', on := onAdd (cellsP x y w hh) id p.on } : WP).fp.Nodup := nodup_new hW.nd (fun i hi => lfp i (by simp only [WP.fp, List.mem_append]; exact .inl (by simpa [or_assoc] using hi))) o3'
      have epl : W.place (id, x, y, w, hh) = { W with bl := W.bl ++ [(id, x, y, w, hh)], dirty := W.dirty ++ [(x, y, w, hh)] } := if_pos h0
      have W3 : WorldOwn H3 { p with dv := v', on := onAdd (cellsP x y w hh) id p.on } (W.place (id, x, y, w, hh)) := by
        rw [epl]
        have ow : Own rectF H3 v' (W.dirty ++ [(x, y, w, hh)]) := by
          rw [← hH3]
          exact o1.keep (Keep.set (S := [p.k]) (by simp) _ _) (fun i hi => by simpa using kv i hi)
        exact ⟨⟨by rw [← hH3]; exact (hget_set_eq hH2l).trans (if_pos rfl), K3.get (hget_app_some _ g2') (by simp only [List.mem_cons, not_or]; exact ⟨ap.a, fun hi => (ap.e _ hi).2.1 rfl⟩),
          K3.get (hget_app_some _ f1) (by simp only [List.mem_cons, not_or]; exact ⟨ap.b, fun hi => (ap.e _ hi).2.2 rfl⟩),
          hW.tl.keep KT (fun i hi => by
            have := ap.t i hi
            simp only [List.mem_append, List.mem_cons, List.not_mem_nil, or_false, not_or]
            exact ⟨⟨this.1, this.2.1, this.2.2.1⟩, this.2.2.2⟩), ow.lies rectF_even, on_place hW.on m4, hW.w1, hW.h1, hW.len, nd'⟩, ow⟩
      refine ⟨_, _, { p with dv := v', on := onAdd (cellsP x y w hh) id p.on }, rfl, W3.congr fun i hi => fin_keep0 ?_, (by rw [← hH] at KK ⊢; exact KK.back0), rfl, ?_, ?_⟩
      · by_cases hi' : i < X.hl
        · exact .inl hi'
        · right
          have hiv : i ∈ slFp v' := by
            simp only [WP.fp, List.mem_append, List.mem_cons, List.not_mem_nil, or_false] at hi
            rcases hi with (h | h) | h
            · have : i ∈ p.fp := by simp only [WP.fp, List.mem_append, List.mem_cons, List.not_mem_nil, or_false]; exact .inl (.inl h)
              have := lfp i this; omega
            · have : i ∈ p.fp := by simp only [WP.fp, List.mem_append, List.mem_cons, List.not_mem_nil, or_false]; exact .inl (.inr h)
              have := lfp i this; omega
            · exact h
          rw [hx_fp hiv, if_neg (by omega)]
          exact escOk_some (by omega)
      · intro i hi
        simp only [WP.fp, List.mem_append, List.mem_cons, List.not_mem_nil, or_false] at hi ⊢
        rcases hi with h | h
        · exact .inl (.inl h)
        · exact (o3' i h).imp_left .inr
      · split <;> simp
    · cases h
theorem r_slices_Clone_byte_byte {X : Mem} {v : SV} {l : List Int} (hp : LiesD byteF (Hm X.heap) v l) (hb : 2 * l.length * 1 ≤ two48) (hw : X.Wf) (hhb : X.hb ≤ X.hl) :
    ∃ v' H', RF tb f_slices_Clone_byte_byte [v] X = some (v', X.hp H') ∧ Own byteF H' v' l ∧ Keep [] X.heap H' ∧ (∀ i ∈ slFp v', X.heap.length ≤ i) := by
  rw [RF_go t_slices_Clone_byte_byte _ _ rfl, push_hp]
  generalize hH : X.heap = H at *
  have hHl : X.hl = H.length := by rw [← hH]; rfl
  have own0 : Own byteF (H ++ [(0, .cells true [])]) (.sl (.hp H.length 0) 0 0 (some 0) 1) [] := own_new byteF_even H [] (some 0)
  have hp' : LiesD byteF (Hm (H ++ [(0, .cells true [])])) v l := hp.keep (Keep.app [] _ _) (by simp)
  obtain ⟨v', H', ha, o1, o2, o3, o4, o5⟩ := app_own byteF_even (by decide) byteF_ok (fun l => by induction l with | nil => rfl | cons a l ih => simp only [List.flatMap_cons]; exact ih) own0 hp' (bytes := 1) (by simpa using hb) (by simp only [two48] at *; simp; omega) X (fun i hi => by simp [slFp] at hi; omega)
  have ha' := ha [.int .u8 0] rfl (fun b => true) rfl
  change ∀ f e, appV 1 1 _ _ _ _ _ = _ at ha'
  have s1 := o1.isSl byteF_even
  have o3' : ∀ i ∈ slFp v', H.length ≤ i := fun i hi => by
    rcases o3 i hi with h | h
    · simp [slFp] at h; omega
    · simp at h; omega
  have fin : Own byteF (if v'.hx ≤ X.hl then H'.take X.hl else H') v' l ∧ Keep [] H (if v'.hx ≤ X.hl then H'.take X.hl else H') := by
    refine ⟨(by simpa using o1 : Own byteF H' v' l).congr fun i hi => fin_keep1 (.inr ?_), ?_⟩
    · have := o3' i hi
      rw [hx_fp hi]
      omega
    · have := ((Keep.app [] H [(0, .cells true [])]).trans' o2 (by simp [slFp]))
      rw [← hH] at this ⊢
      exact this.back1
  rcases hp.2 with ⟨rfl, h0⟩ | ⟨rfl, h0⟩ | ⟨k, w, off, cap, c, rw, rfl, _⟩
  · simp (maxDischargeDepth := 8) only [go_sem, s_slices_Clone_byte_byte, hw, hH]
    have : l = [] := List.eq_nil_of_length_eq_zero h0
    subst this
    exact ⟨.nils, H, by rw [← hH]; rfl, Own.nil _, Keep.refl _ _, by simp [slFp]⟩
  · simp (maxDischargeDepth := 8) only [go_sem, s_slices_Clone_byte_byte, hw, ha', s1.c, s1.l]
    exact ⟨_, _, rfl, fin.1, fin.2, o3'⟩
  · simp (maxDischargeDepth := 8) only [go_sem, s_slices_Clone_byte_byte, hw, ha', s1.c, s1.l]
    exact ⟨_, _, rfl, fin.1, fin.2, o3'⟩
def newGo (W : Wd) (last : Int) : List Bld → Option Wd
  | [] => some W
  | b :: r => if b.1 ≤ last ∨ W.may b ≠ 0 then none else newGo (W.place b) b.1 r
theorem newGo_cons (W : Wd) (last : Int) (b : Bld) (r : List Bld) : newGo W last (b :: r) = if b.1 ≤ last ∨ W.may b ≠ 0 then none else newGo (W.place b) b.1 r := rfl
def dimsOk (w h : Int) (n : Nat) : Bool := decide (1 ≤ w) && decide (w ≤ 128) && decide (1 ≤ h) && decide (h ≤ 128) && decide ((n : Int) = w * h)
/-- A map's world: none, if it may not be. -/
def newW (w h : Int) (tiles : List Int) (bl : List Bld) : Option Wd := if dimsOk w h tiles.length && tiles.all (fun t => decide (t < 4)) then (newGo ⟨w, h, tiles, [], []⟩ 0 bl).map fun W => { W with dirty := [] } else none
def NewPost (X : Mem) (o : Option Wd) (z : Option (SV × Mem)) : Prop := match o with
  | none => ∃ H' u, z = some (.tup [.nilp, .int .i64 1], (X.hp H').es (escMin X.esc u)) ∧ Keep [] X.heap H'
  | some W => ∃ H' u p, z = some (.tup [.ptr (.hp p.k 0) 0, .int .i64 0], (X.hp H').es (escMin X.esc u)) ∧ WorldOwn H' p W ∧ Keep [] X.heap H' ∧ ∀ i ∈ p.fp, X.heap.length ≤ i
theorem wrap_succ {i : Nat} (h : i ≤ 4611686018427387903) : IntKind.wrap .i64 ((i : Int) + 1) = ((i + 1 : Nat) : Int) := by rw [wrap_small (by omega) (by omega)]; rfl
theorem wrap_mul {w h : Int} (h1 : 1 ≤ w ∧ w ≤ 128) (h2 : 1 ≤ h ∧ h ≤ 128) : IntKind.wrap .i64 (w * h) = w * h ∧ 1 ≤ w * h ∧ w * h ≤ 16384 := by
  have e1 : w * h ≤ 128 * 128 := Int.mul_le_mul h1.2 h2.2 (by omega) (by omega)
  have e2 : 1 * 1 ≤ w * h := Int.mul_le_mul h1.1 h2.1 (by omega) (by omega)
  exact ⟨wrap_small (by omega) (by omega), by omega, by omega⟩
theorem newPost_fail {X : Mem} {o : Option Wd} (h : o = none) : NewPost X o (some (.tup [.nilp, .int .i64 1], X)) := by
  subst h
  exact ⟨X.heap, none, by rw [escMin_none]; rfl, Keep.refl _ _⟩
theorem newW_bad {w h : Int} {tiles : List Int} {bl : List Bld} (hd : dimsOk w h tiles.length = false) : newW w h tiles bl = none := by
  unfold newW; rw [hd]; rfl
theorem r_grid_New {X : Mem} {tv bv : SV} {tiles : List Int} {bl : List Bld} (ht : LiesD byteF (Hm X.heap) tv tiles) (hb : LiesD bldF (Hm X.heap) bv bl) (hbl : bl.length ≤ two48) (hw : X.Wf) (hhb : X.hb ≤ X.hl) (w hh : Int) :
    NewPost X (newW w hh tiles bl) (RF tb f_grid_New [.agg [.int .i64 w, .int .i64 hh, tv, bv]] X) := by
  rw [RF_go t_grid_New _ _ rfl, push_hp]
  generalize hH : X.heap = H at *
  have hHl : X.hl = H.length := by rw [← hH]; rfl
  cases hd : dimsOk w hh tiles.length with
  | false =>
    have hno : ∀ z, z = some (SV.tup [.nilp, .int .i64 1], X) → NewPost X (newW w hh tiles bl) z := fun z hz => by rw [hz]; exact newPost_fail (newW_bad hd)
    simp (maxDischargeDepth := 8) only [go_sem, s_grid_New, hw, hH, ht.cell, hb.cell, ht.len, hb.len]
    repeat' ((first | rw [KG_bool] | rw [KC_bool]); split <;> rename_i h <;> (try simp only [Bool.not_eq_true, Bool.not_not, Bool.not_eq_eq_eq_not, Bool.not_true, Bool.not_false] at h) <;> simp (maxDischargeDepth := 8) only [go_sem, h, hw, hH, ht.cell, hb.cell, ht.len])
    all_goals first | exact hno _ rfl | skip
    exfalso
    rename_i h1 h2 h3 h4
    simp only [decide_eq_false_iff_not, bne_eq_false_iff_eq] at h1 h2 h3 h4 h
    rw [(wrap_mul ⟨by omega, by omega⟩ ⟨by omega, by omega⟩).1] at h
    have : dimsOk w hh tiles.length = true := by simp only [dimsOk, Bool.and_eq_true, decide_eq_true_eq]; omega
    rw [this] at hd
    cases hd
  | true =>
    simp only [dimsOk, Bool.and_eq_true, decide_eq_true_eq] at hd
    obtain ⟨⟨⟨⟨d1, d2⟩, d3⟩, d4⟩, d5⟩ := hd
    have wm := wrap_mul ⟨d1, d2⟩ ⟨d3, d4⟩
    simp (maxDischargeDepth := 8) only [go_sem, s_grid_New, hw, hH, ht.cell, hb.cell, ht.len, hb.len, show decide (w < 1) = false from decide_eq_false (by omega), show decide (w > 128) = false from decide_eq_false (by omega), show decide (hh < 1) = false from decide_eq_false (by omega), show decide (hh > 128) = false from decide_eq_false (by omega), show ((tiles.length : Int) != IntKind.wrap .i64 (w * hh)) = false from by rw [wm.1, d5]; simp]
    refine KL_ind (R := fun z => NewPost X (newW w hh tiles bl) (fin [.t 2, .t 3] X z)) (α := Nat) (fun i => tiles.length - i) (fun i => [(1, .ptr (.st X.dep 0) 0), (40, tv), (41, .i tiles.length), (42, .int .i64 (i : Int))]) (fun _ => (X.hp H).fr [.cells true [.int .i64 w, .int .i64 hh, tv, bv]] none) (fun i => i ≤ tiles.length ∧ (tiles.take i).all (fun t => decide (t < 4)) = true) ?_ 0 ⟨Nat.zero_le _, rfl⟩
    rintro i ⟨hi, hI⟩ ih
    simp (maxDischargeDepth := 8) only [go_sem, hw, ht.lv]
    by_cases hlt : i < tiles.length
    · have hel : tiles[i]? = some tiles[i] := List.getElem?_eq_getElem hlt
      generalize tiles[i] = x at hel
      have hI' : (tiles.take (i + 1)).all (fun t => decide (t < 4)) = decide (x < 4) := by
        rw [List.take_add_one, hel, List.all_append, hI]; simp
      simp (maxDischargeDepth := 8) only [go_sem, show decide ((i : Int) < (tiles.length : Int)) = true from decide_eq_true (by omega), hw, ht.iaddrB (show (0 : Int) ≤ (i : Int) by omega) (show (i : Int) < (tiles.length : Int) by omega), ht.loadB hel, wrap_succ (show i ≤ 4611686018427387903 by omega)]
      cases hx : decide (x ≥ 4) with
      | true =>
        simp (maxDischargeDepth := 8) only [go_sem, hw, hH]
        refine newPost_fail ?_
        unfold newW
        rw [if_neg]
        intro hc
        simp only [Bool.and_eq_true] at hc
        have := List.all_eq_true.1 hc.2 x (List.mem_of_getElem? hel)
        simp at hx this
        omega
      | false =>
        simp (maxDischargeDepth := 8) only [go_sem, hw, wrap_succ (show i ≤ 4611686018427387903 by omega)]
        rw [KL_keep _ _ _ (by simp (maxDischargeDepth := 8) only [go_sem, ht.lv])]
        simp (maxDischargeDepth := 8) only [go_sem]
        exact ih (i + 1) ⟨by omega, by rw [hI']; simp at hx ⊢; omega⟩ (by omega)
    · obtain rfl : i = tiles.length := by omega
      rw [List.take_length] at hI
      simp (maxDischargeDepth := 8) only [go_sem, show decide ((tiles.length : Int) < (tiles.length : Int)) = false from decide_eq_false (by omega), hw, ht.cell]
      obtain ⟨v', H1, hc, c1, c2, c3⟩ := r_slices_Clone_byte_byte (X := ((X.hp H).fr [.cells true [.int .i64 w, .int .i64 hh, tv, bv]] none).shut) ht (by simp only [two48]; omega) (shut_wf _) (Nat.le_refl _)
      have s1 := c1.isSl byteF_even
      change Keep [] H H1 at c2
      change ∀ i ∈ slFp v', H.length ≤ i at c3
      simp (maxDischargeDepth := 8) only [go_sem, hc, s1.c, s1.k, s1.o, s1.l, hb.len, List.length_append, List.append_assoc]
      have l1 : H.length ≤ H1.length := c2.1
      obtain ⟨H2, hH2⟩ : ∃ H2, H1 ++ [(0, SBk.map []), (0, SBk.map []), (0, SBk.cells true [.int .i64 w, .int .i64 hh, v', .map (.hp H1.length 0), .map (.hp (H1.length + 1) 0), .nils])] = H2 := ⟨_, rfl⟩
      have l2 : H2.length = H1.length + 3 := by rw [← hH2, List.length_append]; rfl
      rw [hH2, KL_keep _ _ _ (by simp (maxDischargeDepth := 8) only [go_sem, hb.lv])]
      simp (maxDischargeDepth := 8) only [go_sem]
      have W0 : WorldOwn H2 ⟨H1.length + 2, H1.length, H1.length + 1, v', .nils, []⟩ ⟨w, hh, tiles, [], []⟩ := by
        subst hH2
        refine ⟨⟨?_, ?_, ?_, ?_, ?_, ?_, ⟨d1, d2⟩, ⟨d3, d4⟩, d5, ?_⟩, Own.nil _⟩
        · exact hget_newi 2 0 _
        · exact hget_new0 0 _
        · exact hget_newi 1 0 _
        · exact (c1.lies byteF_even).keep (Keep.app [] _ _) (by simp)
        · exact LiesD.nil _ _
        · intro a b; rfl
        · have hf := c1.fp
          simp only [WP.fp, slFp, List.append_nil, List.cons_append, List.nil_append, List.nodup_cons, List.mem_cons, not_or]
          refine ⟨⟨by omega, by omega, fun h => ?_⟩, ⟨by omega, fun h => ?_⟩, fun h => ?_, slFp_nodup _⟩ <;> have := hf _ h <;> omega
      have K0 : Keep [] H H2 := c2.trans (by rw [← hH2]; exact Keep.app _ _ _)
      have F0 : ∀ i ∈ WP.fp ⟨H1.length + 2, H1.length, H1.length + 1, v', .nils, []⟩, H.length ≤ i := by
        intro i hi
        simp only [WP.fp, slFp, List.append_nil, List.cons_append, List.nil_append, List.mem_cons] at hi
        rcases hi with rfl | rfl | rfl | hi <;> first | omega | exact c3 i hi
      have hnew : newW w hh tiles bl = (newGo ⟨w, hh, tiles, [], []⟩ 0 bl).map fun W => { W with dirty := [] } := by
        unfold newW
        rw [if_pos]
        simp only [dimsOk, Bool.and_eq_true, decide_eq_true_eq]
        exact ⟨⟨⟨⟨⟨d1, d2⟩, d3⟩, d4⟩, d5⟩, hI⟩
      rw [hnew]
      refine KL_ind (R := fun z => NewPost X ((newGo ⟨w, hh, tiles, [], []⟩ 0 bl).map fun W => { W with dirty := [] }) (fin [.t 2, .t 3] X z)) (α := Nat × Hp × WP × Wd × Int × Option Nat) (fun a => bl.length - a.1)
        (fun a => [(6, .ptr (.hp a.2.2.1.k 0) 0), (7, .int .i64 a.2.2.2.2.1), (61, bv), (62, .i bl.length), (63, .int .i64 (a.1 : Int))])
        (fun a => (X.hp a.2.1).fr [.cells true [.int .i64 w, .int .i64 hh, tv, bv]] a.2.2.2.2.2)
        (fun a => a.1 ≤ bl.length ∧ WorldOwn a.2.1 a.2.2.1 a.2.2.2.1 ∧ Keep [] H a.2.1 ∧ (∀ i ∈ a.2.2.1.fp, H.length ≤ i) ∧ newGo ⟨w, hh, tiles, [], []⟩ 0 bl = newGo a.2.2.2.1 a.2.2.2.2.1 (bl.drop a.1) ∧ a.2.2.2.1.dirty.length = a.2.2.2.1.bl.length ∧ a.2.2.2.1.bl.length ≤ 256 ∧ (a.2.2.2.2.2 = none ∨ ∃ k, a.2.2.2.2.2 = some k ∧ H.length ≤ k))
        ?_ (0, H2, ⟨H1.length + 2, H1.length, H1.length + 1, v', .nils, []⟩, ⟨w, hh, tiles, [], []⟩, 0, none) ⟨Nat.zero_le _, W0, K0, F0, rfl, rfl, Nat.zero_le _, .inl rfl⟩
      clear ih
      rintro ⟨i, Hi, p, W, last, e⟩ ⟨hi', hO, hK, hF, hgo, hdl, hbl', he⟩ ih
      dsimp only at hi' hO hK hF hgo hdl hbl' he ⊢
      have hsub := hK.sub
      simp (maxDischargeDepth := 8) only [go_sem, hw, hb.lv]
      by_cases hlt : i < bl.length
      · have hel : bl[i]? = some bl[i] := List.getElem?_eq_getElem hlt
        have hdr : bl.drop i = bl[i] :: bl.drop (i + 1) := List.drop_eq_getElem_cons hlt
        generalize bl[i] = b at hel hdr
        obtain ⟨id, bx, by', bw, bh⟩ := b
        rw [hdr, newGo_cons] at hgo
        simp (maxDischargeDepth := 8) only [go_sem, show decide ((i : Int) < (bl.length : Int)) = true from decide_eq_true (by omega), hw, hb.iaddr5 hlt, hb.load5 hel, hsub, hb.lv]
        have gfail : (id ≤ last ∨ W.may (id, bx, by', bw, bh) ≠ 0) → ∀ z : Option (SV × Mem), (∃ H' u, z = some (.tup [.nilp, .int .i64 1], (X.hp H').es (escMin X.esc u)) ∧ Keep [] X.heap H') → NewPost X ((newGo ⟨w, hh, tiles, [], []⟩ 0 bl).map fun W => { W with dirty := [] }) z := by
          intro hc z hz
          rw [hgo, if_pos hc]
          exact hz
        have hKX : Keep [] X.heap Hi := by rw [hH]; exact hK
        cases hx : decide (id ≤ last) with
        | true =>
          simp (maxDischargeDepth := 8) only [go_sem, hw]
          exact gfail (.inl (of_decide_eq_true hx)) _ ⟨_, _, rfl, hKX.back0⟩
        | false =>
          by_cases hm : W.may (id, bx, by', bw, bh) = 0
          · obtain ⟨H', u, p', hq, q1, q2, q3, q4, q5⟩ := r_grid_World_Place (X := (X.hp Hi).fr [.cells true [.int .i64 w, .int .i64 hh, tv, bv], .cells true [.int .i64 id, .int .i64 bx, .int .i64 by', .int .i64 bw, .int .i64 bh]] e) hO (fr_wf (hp_wf hw) _ _) (fun n hn => by have := hF n hn; show X.hb ≤ n; omega) (by omega) id bx by' bw bh hm
            change Keep p.fp Hi H' at q2
            change ∀ i ∈ p'.fp, i ∈ p.fp ∨ Hi.length ≤ i at q4
            have hK' : Keep [] H H' := hK.trans' q2 (fun n hn hl => by have := hF n hn; omega)
            have hF' : ∀ j ∈ p'.fp, H.length ≤ j := fun j hj => by
              rcases q4 j hj with h | h
              · exact hF j h
              · have := hK.1; omega
            have hpl : W.place (id, bx, by', bw, bh) = { W with bl := W.bl ++ [(id, bx, by', bw, bh)], dirty := W.dirty ++ [(bx, by', bw, bh)] } := if_pos hm
            have hm3 := (may0 hm).2.2.1
            rw [if_neg (by simp at hx; simp [hm]; exact hx)] at hgo
            simp (maxDischargeDepth := 8) only [go_sem, hw, hq, hb.lv, wrap_succ (show i ≤ 4611686018427387903 by simp only [two48] at hbl; omega)]
            rw [KL_keep _ _ _ (by simp (maxDischargeDepth := 8) only [go_sem, hb.lv])]
            simp (maxDischargeDepth := 8) only [go_sem]
            rw [← q3]
            refine ih (i + 1, H', p', W.place (id, bx, by', bw, bh), id, escMin e u) ⟨by dsimp only; omega, q1, hK', hF', hgo, by dsimp only; rw [hpl]; simp [hdl], by dsimp only; rw [hpl]; simp; omega, ?_⟩ (by dsimp only; omega)
            dsimp only
            have hpk : H.length ≤ p.k := hF p.k (by simp [WP.fp])
            rcases he with rfl | ⟨k, rfl, hk⟩ <;> rcases q5 with rfl | rfl
            · exact .inl rfl
            · exact .inr ⟨_, rfl, hpk⟩
            · exact .inr ⟨_, rfl, hk⟩
            · exact .inr ⟨_, rfl, by omega⟩
          · simp (maxDischargeDepth := 8) only [go_sem, hw, r_grid_World_Place_no hO.at_, hm, hb.lv, show (W.may (id, bx, by', bw, bh) != 0) = true from bne_iff_ne.2 hm]
            exact gfail (.inr hm) _ ⟨_, _, rfl, hKX.back0⟩
      · obtain rfl : i = bl.length := by omega
        have ghd : hget Hi p.k 0 = _ := hO.at_.hd
        have hpk : H.length ≤ p.k := hF p.k (by simp [WP.fp])
        simp (maxDischargeDepth := 8) only [go_sem, show decide ((bl.length : Int) < (bl.length : Int)) = false from decide_eq_false (by omega), hw, ghd, show X.hb ≤ p.k by omega, eq_false (show ¬ p.k + 1 ≤ X.hl by omega)]
        rw [hgo, List.drop_length]
        have ap := WP.apart hO.at_.nd
        refine ⟨_, _, { p with dv := .nils }, rfl, ?_, ?_, ?_⟩
        · have hs : Keep [p.k] Hi (Hi.set p.k (0, SBk.cells true [.int .i64 W.w, .int .i64 W.h, p.tv, .map (.hp p.kb 0), .map (.hp p.ko 0), .nils])) := Keep.set (by simp) _ _
          refine ⟨⟨?_, hs.get hO.at_.bt (by simp [ap.a]), hs.get hO.at_.ot (by simp [ap.b]), hO.at_.tl.keep hs (fun i hi => by simpa using (ap.t i hi).1), LiesD.nil _ _, hO.at_.on, hO.at_.w1, hO.at_.h1, hO.at_.len, ?_⟩, Own.nil _⟩
          · exact (hget_set_eq (hget_lt ghd)).trans (if_pos rfl)
          · have := hO.at_.nd
            simp only [WP.fp, slFp, List.append_nil] at this ⊢
            exact (List.nodup_append.1 this).1
        · rw [hH]; exact hK.trans' (Keep.set (S := [p.k]) (by simp) _ _) (by simp; omega)
        · intro i hi
          rw [hH]
          refine hF i ?_
          simp only [WP.fp, slFp, List.append_nil, List.mem_append] at hi ⊢
          exact .inl hi
structure QP where
  k : Nat
  tv : SV
  bv : SV
  ev : SV
def QP.fp (p : QP) : List Nat := [p.k] ++ slFp p.tv ++ slFp p.bv ++ slFp p.ev
/-- A reference's world: its buildings by rising numbers. -/
structure RefAt (m : Mem) (p : QP) (W : Wd) (bl : List Bld) : Prop where
  hd : m.get (.hp p.k 0) = some (.cells true [.int .i64 W.w, .int .i64 W.h, p.tv, p.bv, p.ev])
  tl : LiesD byteF m p.tv W.tiles
  bt : LiesD bldF m p.bv bl
  el : LiesD rectF m p.ev W.dirty
  w1 : 1 ≤ W.w ∧ W.w ≤ 128
  h1 : 1 ≤ W.h ∧ W.h ≤ 128
  len : (W.tiles.length : Int) = W.w * W.h
  few : bl.length ≤ 256
section
variable {m X : Mem} {p : QP} {W : Wd} {bl : List Bld} (hV : RefAt m p W bl) (hX : HpSub m X)
include hV hX
theorem RefAt.ld (off : Nat) (n : Option Nat) : X.load (.hp p.k 0) off n = partv [.int .i64 W.w, .int .i64 W.h, p.tv, p.bv, p.ev] off n := by rw [load_get, hX _ _ _ hV.hd]
theorem RefAt.sub : RefAt X p W bl := ⟨hX _ _ _ hV.hd, hV.tl.sub hX, hV.bt.sub hX, hV.el.sub hX, hV.w1, hV.h1, hV.len, hV.few⟩
end
structure RefOwn (H : Hp) (p : QP) (W : Wd) (bl : List Bld) : Prop where
  at_ : RefAt (Hm H) p W bl
  ob : Own bldF H p.bv bl
  oe : Own rectF H p.ev W.dirty
  nd : p.fp.Nodup
theorem WorldOwn.keep {A B : Hp} {p : WP} {W : Wd} {S : List Nat} (h : WorldOwn A p W) (k : Keep S A B) (hs : ∀ i ∈ p.fp, i ∉ S) : WorldOwn B p W := h.congr fun i hi => k.2 i (h.at_.lt i hi) (hs i hi)
theorem RefOwn.lt {H : Hp} {p : QP} {W : Wd} {bl : List Bld} (h : RefOwn H p W bl) : ∀ i ∈ p.fp, i < H.length := by
  intro i hi
  simp only [QP.fp, List.mem_append, List.mem_singleton] at hi
  rcases hi with ((rfl | hi) | hi) | hi
  · exact hget_lt h.at_.hd
  · exact h.at_.tl.fp i hi
  · exact h.at_.bt.fp i hi
  · exact h.at_.el.fp i hi
theorem RefOwn.congr {A B : Hp} {p : QP} {W : Wd} {bl : List Bld} (h : RefOwn A p W bl) (hc : ∀ i ∈ p.fp, B[i]? = A[i]?) : RefOwn B p W bl :=
  ⟨⟨(hget_congr (hc _ (by simp [QP.fp])) 0).trans h.at_.hd, h.at_.tl.congr fun i hi => hc i (by simp [QP.fp, hi]), h.at_.bt.congr fun i hi => hc i (by simp [QP.fp, hi]), h.at_.el.congr fun i hi => hc i (by simp [QP.fp, hi]), h.at_.w1, h.at_.h1, h.at_.len, h.at_.few⟩,
    h.ob.congr fun i hi => hc i (by simp [QP.fp, hi]), h.oe.congr fun i hi => hc i (by simp [QP.fp, hi]), h.nd⟩
theorem RefOwn.keep {A B : Hp} {p : QP} {W : Wd} {bl : List Bld} {S : List Nat} (h : RefOwn A p W bl) (k : Keep S A B) (hs : ∀ i ∈ p.fp, i ∉ S) : RefOwn B p W bl := h.congr fun i hi => k.2 i (h.lt i hi) (hs i hi)
section
variable {X : Mem} {tv bv : SV} {tiles : List Int} {bl : List Bld} (ht : LiesD byteF (Hm X.heap) tv tiles) (hg : ∀ t ∈ tiles, 0 ≤ t ∧ t ≤ 255) (hb : LiesD bldF (Hm X.heap) bv bl) (hbl : bl.length ≤ two48) (hw : X.Wf) (hhb : X.hb ≤ X.hl) (w hh : Int)
include ht hg hb hbl hw hhb
end
def mayS (cl sz : Int) : Bool := decide (cl ≥ 0) && decide (cl < 4) && decide (sz ≥ 1) && decide (sz ≤ 4)
def onB (cl t : Int) : Bool := (decide (cl = 0) && (decide (t = 0) || decide (t = 1))) || (decide (cl = 1) && decide (t = 0)) || (decide (cl = 2) && decide (t = 2)) || (decide (cl = 3) && (decide (t = 0) || decide (t = 2)))
theorem r_class_May (X : Mem) (hw : X.Wf) (cl sz : Int) : RF tb f_class_May [.agg [.int .i64 cl, .int .i64 sz]] X = some (.bool (mayS cl sz), X) := by
  rw [RF_go t_class_May _ _ rfl]
  simp (maxDischargeDepth := 8) only [go_sem, s_class_May, hw]
  repeat' ((first | rw [KG_bool] | rw [KC_bool]); split <;> rename_i h <;> (try simp only [Bool.not_eq_true, Bool.not_not, Bool.not_eq_eq_eq_not, Bool.not_true, Bool.not_false] at h) <;> simp (maxDischargeDepth := 8) only [go_sem, h, hw])
  all_goals simp_all [mayS]
  all_goals first | done | (intros; omega)
theorem r_class_On (X : Mem) (hw : X.Wf) (cl t : Int) : RF tb f_class_On [.int .i64 cl, .int .i64 t] X = some (.bool (onB cl t), X) := by
  rw [RF_go t_class_On _ _ rfl]
  simp (maxDischargeDepth := 8) only [go_sem, s_class_On, hw]
  by_cases hc : 0 ≤ cl ∧ cl < 4 ∧ 0 ≤ t ∧ t < 4
  · have h1 : cl = 0 ∨ cl = 1 ∨ cl = 2 ∨ cl = 3 := by omega
    have h2 : t = 0 ∨ t = 1 ∨ t = 2 ∨ t = 3 := by omega
    rcases h1 with rfl | rfl | rfl | rfl <;> rcases h2 with rfl | rfl | rfl | rfl <;>
      (simp (maxDischargeDepth := 8) only [go_sem, hw, show decide ((0 : Int) ≥ 0) = true from rfl, show decide ((1 : Int) ≥ 0) = true from rfl, show decide ((2 : Int) ≥ 0) = true from rfl, show decide ((3 : Int) ≥ 0) = true from rfl, show decide ((0 : Int) < 4) = true from rfl, show decide ((1 : Int) < 4) = true from rfl, show decide ((2 : Int) < 4) = true from rfl, show decide ((3 : Int) < 4) = true from rfl, show inB 0 4 = true from rfl, show inB 1 4 = true from rfl, show inB 2 4 = true from rfl, show inB 3 4 = true from rfl, ibits]; rfl)
  · have e : onB cl t = false := by
      simp only [onB, Bool.or_eq_false_iff, Bool.and_eq_false_iff, decide_eq_false_iff_not]
      omega
    rw [e]
    repeat' ((first | rw [KG_bool] | rw [KC_bool]); split <;> rename_i h <;> (try simp only [Bool.not_eq_true, Bool.not_not, Bool.not_eq_eq_eq_not, Bool.not_true, Bool.not_false] at h) <;> simp (maxDischargeDepth := 8) only [go_sem, h, hw])
    all_goals first | rfl | (exfalso; simp at *; omega)
def footR (cl sz x y : Int) : Rc := if mayS cl sz && mayB x y sz sz then (x, y, sz, sz) else (0, 0, 0, 0)
theorem r_class_Foot (X : Mem) (hw : X.Wf) (cl sz x y : Int) : RF tb f_class_Foot [.agg [.int .i64 cl, .int .i64 sz], .agg [.int .i64 x, .int .i64 y]] X = some (rectR (footR cl sz x y), X) := by
  rw [RF_go t_class_Foot _ _ rfl]
  simp (maxDischargeDepth := 8) only [go_sem, s_class_Foot, hw, r_class_May, r_cell_May]
  repeat' ((first | rw [KG_bool] | rw [KC_bool]); split <;> rename_i h <;> (try simp only [Bool.not_eq_true, Bool.not_not, Bool.not_eq_eq_eq_not, Bool.not_true, Bool.not_false] at h) <;> simp (maxDischargeDepth := 8) only [go_sem, h, hw, r_class_May, r_cell_May])
  all_goals simp_all [footR]
/-- Is a cell free for a class? -/
def Wd.free (W : Wd) (cl a b : Int) : Bool := !(atL W.bl a b).isSome && onB cl (if W.has a b then W.tile a b else 0)
def Wd.stands (W : Wd) (cl sz x y : Int) : Bool :=
  withinB (footR cl sz x y).1 (footR cl sz x y).2.1 (footR cl sz x y).2.2.1 (footR cl sz x y).2.2.2 0 0 W.w W.h &&
    !(cellsP (footR cl sz x y).1 (footR cl sz x y).2.1 (footR cl sz x y).2.2.1 (footR cl sz x y).2.2.2).any fun c => !W.free cl c.1 c.2
theorem r_class_Stands {m : Mem} {p : WP} {W : Wd} (hW : WorldAt m p W) (hg : W.Good) {X : Mem} (hX : HpSub m X) (hw : X.Wf) (cl sz x y : Int) : RF tb f_class_Stands [.ptr (.hp p.k 0) 0, .agg [.int .i64 cl, .int .i64 sz], .agg [.int .i64 x, .int .i64 y]] X = some (.bool (W.stands cl sz x y), X) := by
  rw [RF_go t_class_Stands _ _ rfl, push_hp]
  generalize hH : X.heap = H
  simp (maxDischargeDepth := 8) only [go_sem, s_class_Stands, hw, hX, hH, r_class_Foot]
  unfold Wd.stands
  generalize footR cl sz x y = r
  obtain ⟨rx, ry, rw', rh⟩ := r
  simp (maxDischargeDepth := 8) only [go_sem, hw, hX, hH, r_grid_World_All hW, r_cell_Within]
  cases h1 : withinB rx ry rw' rh 0 0 W.w W.h with
  | false => simp (maxDischargeDepth := 8) only [go_sem, hw, hH]
  | true =>
    simp (maxDischargeDepth := 8) only [go_sem, hw, hH, r_cell_Cells]
    rw [cells_findG (fun M => M.lp (.st X.dep 5) .done (some .ret)) (fun a b => !W.free cl a b) (d := X.dep + 1) (x := rx) (y := ry) (w := rw') (hh := rh) (by omega)]
    case hB => exact ⟨rfl, by simp (maxDischargeDepth := 8) only [go_sem, hw], by simp (maxDischargeDepth := 8) only [go_sem, hapGet]⟩
    case hB' => exact ⟨by simp (maxDischargeDepth := 8) only [go_sem, hw], by simp (maxDischargeDepth := 8) only [go_sem, hw], by simp (maxDischargeDepth := 8) only [go_sem, hapGet]⟩
    case hl => simp (maxDischargeDepth := 8) only [go_sem]
    case he => simp (maxDischargeDepth := 8) only [go_sem]
    case step =>
      intro a b hab fs e
      rw [RV_go (l := ⟨.ready, none, _, _, _, _⟩) _ _ _ (by simp (maxDischargeDepth := 8) only [go_sem]; rfl) rfl rfl (by simp (maxDischargeDepth := 8) only [go_sem, hw])]
      simp (maxDischargeDepth := 8) only [go_sem, hw, hX, hH, r_grid_World_Terrain hW hg, r_grid_World_At hW, r_class_On]
      cases h2 : (atL W.bl a b).isSome with
      | true =>
        have h3 : W.free cl a b = false := by unfold Wd.free; rw [h2]; rfl
        simp (maxDischargeDepth := 8) only [go_sem, hw, h3]
      | false =>
        simp (maxDischargeDepth := 8) only [go_sem, hw, hX, hH, r_class_On]
        cases h4 : onB cl (if W.has a b then W.tile a b else 0) with
        | true =>
          have h3 : W.free cl a b = true := by unfold Wd.free; rw [h2, h4]; rfl
          simp (maxDischargeDepth := 8) only [go_sem, hw, h3]
        | false =>
          have h3 : W.free cl a b = false := by unfold Wd.free; rw [h2, h4]; rfl
          simp (maxDischargeDepth := 8) only [go_sem, hw, h3]
    cases h5 : (cellsP rx ry rw' rh).any fun c => !W.free cl c.1 c.2 with
    | true => simp (maxDischargeDepth := 8) only [go_sem, hw, hH]
    | false => simp (maxDischargeDepth := 8) only [go_sem, hw, hH]
def Wd.steps (W : Wd) (cl sz x y d : Int) : Bool := stepOk x y d && W.stands cl sz x y && W.stands cl sz (x + turnX d) (y + turnY d) && (!sideOk x y d || (W.stands cl sz (x + turnX d) y && W.stands cl sz x (y + turnY d)))
def Wd.plain (w h : Int) : Wd := ⟨w, h, List.replicate (w * h).toNat 0, [], []⟩
theorem hxs_cell (l : List (Int × Int)) : SV.hxs (l.flatMap cellF.enc) = 0 := by induction l with | nil => rfl | cons a l ih => simp only [List.flatMap_cons]; exact ih
/-- Rounds, each of which keeps what lies behind, or notes it. -/
inductive RoundsN (F : Tbl) (b : Bk) (P : Mem → Prop) (H : Nat) : List (List SV) → Mem → Option Nat → Mem → Option Nat → Bool → Prop
  | nil (m : Mem) (u : Option Nat) : RoundsN F b P H [] m u m u true
  | stop {x : List SV} {L : List (List SV)} {m m' : Mem} {u d : Option Nat} (h : Yields F b x m m' d false) (hp : P m') (hk : m'.hl = m.hl ∨ ∃ k, d = some k ∧ k < H) : RoundsN F b P H (x :: L) m u m' (escMin u d) false
  | next {x : List SV} {L : List (List SV)} {m m' m'' : Mem} {u d u' : Option Nat} {go : Bool} (h : Yields F b x m m' d true) (hp : P m') (hk : m'.hl = m.hl ∨ ∃ k, d = some k ∧ k < H) (t : RoundsN F b P H L m' (escMin u d) m'' u' go) : RoundsN F b P H (x :: L) m u m'' u' go
theorem noted_next {H : Nat} {m m' : Mem} {u d : Option Nat} (h : Noted H m u) (hk : m'.hl = m.hl ∨ ∃ k, d = some k ∧ k < H) : Noted H m' (escMin u d) := by
  rcases hk with hk | ⟨k, rfl, hk⟩
  · rcases h with h | ⟨j, rfl, hj⟩
    · exact .inl (hk.trans h)
    · cases d with
      | none => exact .inr ⟨j, rfl, hj⟩
      | some d => exact .inr ⟨min j d, rfl, by omega⟩
  · cases u with
    | none => exact .inr ⟨k, rfl, hk⟩
    | some j => exact .inr ⟨min j k, rfl, by omega⟩
theorem RoundsN.noted {F : Tbl} {b : Bk} {P : Mem → Prop} {H : Nat} {L : List (List SV)} {m m' : Mem} {u u' : Option Nat} {go : Bool} (h : RoundsN F b P H L m u m' u' go) (h0 : Noted H m u) : Noted H m' u' := by
  induction h with
  | nil => exact h0
  | stop _ _ hk => exact noted_next h0 hk
  | next _ _ hk _ ih => exact ih (noted_next h0 hk)
theorem RoundsN.weak {F : Tbl} {b : Bk} {P : Mem → Prop} {H H' : Nat} {L : List (List SV)} {m m' : Mem} {u u' : Option Nat} {go : Bool} (h : RoundsN F b P H L m u m' u' go) (hh : H ≤ H') : RoundsN F b P H' L m u m' u' go := by
  induction h with
  | nil => exact .nil _ _
  | stop h hp hk => exact .stop h hp (hk.imp_right fun ⟨k, h1, h2⟩ => ⟨k, h1, by omega⟩)
  | next h hp hk _ ih => exact .next h hp (hk.imp_right fun ⟨k, h1, h2⟩ => ⟨k, h1, by omega⟩) ih
theorem RoundsN.last {F : Tbl} {b : Bk} {P : Mem → Prop} {H : Nat} {L : List (List SV)} {m m' : Mem} {u u' : Option Nat} {go : Bool} (h : RoundsN F b P H L m u m' u' go) (h0 : P m) : P m' := by
  induction h with
  | nil => exact h0
  | stop _ hp => exact hp
  | next _ hp _ _ ih => exact ih hp
theorem stands_has {W : Wd} {cl sz x y : Int} (h : W.stands cl sz x y = true) : W.has x y = true := by
  simp only [Wd.stands, Bool.and_eq_true] at h
  have h := h.1
  unfold footR at h
  split at h
  · simp only [withinB, Bool.and_eq_true] at h
    exact h.1.2
  · simp only [withinB, Bool.and_eq_true] at h
    have : mayB 0 0 0 0 = true := h.1.1
    exact absurd this (by decide)
theorem stands_in {W : Wd} {cl sz x y : Int} (h : W.stands cl sz x y = true) : footR cl sz x y = (x, y, sz, sz) ∧ mayS cl sz = true ∧ mayB x y sz sz = true ∧ W.has x y = true ∧ W.has (x + sz - 1) (y + sz - 1) = true ∧ ∀ a b, hasB x y sz sz a b = true → W.free cl a b = true := by
  have hf : footR cl sz x y = (x, y, sz, sz) ∧ mayS cl sz = true ∧ mayB x y sz sz = true := by
    unfold footR
    split
    · rename_i hc; rw [Bool.and_eq_true] at hc; exact ⟨rfl, hc.1, hc.2⟩
    · rename_i hc
      unfold Wd.stands footR at h
      rw [if_neg hc] at h
      simp only [withinB, Bool.and_eq_true] at h
      exact absurd h.1.1.1 (by decide)
  unfold Wd.stands at h
  rw [hf.1] at h
  simp only [withinB, Bool.and_eq_true, Bool.not_eq_true'] at h
  obtain ⟨⟨⟨h1, h2⟩, h3⟩, h4⟩ := h
  have hl := may_last h1
  rw [hl.1, hl.2] at h3
  refine ⟨hf.1, hf.2.1, hf.2.2, h2, h3, fun a b hab => ?_⟩
  have := List.any_eq_false.1 h4 (a, b) (cellsP_mem.2 hab)
  simpa using this
theorem may_sub {x y w h w' h' : Int} (hm : mayB x y w h = true) (h1 : 1 ≤ w' ∧ w' ≤ w) (h2 : 1 ≤ h' ∧ h' ≤ h) : mayB x y w' h' = true := by
  have a1 := may_in hm
  have a2 := may_sides hm
  have a3 := may_last hm
  rw [a3.1, a3.2] at a1
  have e1 : lastX x w' = x + w' - 1 := by unfold lastX; rw [wrap_small (x := x + w') (by omega) (by omega), wrap_small (by omega) (by omega)]
  have e2 : lastX y h' = y + h' - 1 := by unfold lastX; rw [wrap_small (x := y + h') (by omega) (by omega), wrap_small (by omega) (by omega)]
  simp only [mayB, nearC, nearP, sideB, e1, e2, Bool.and_eq_true, decide_eq_true_eq]
  omega
theorem stands_of {W : Wd} {cl sz x y : Int} (h1 : mayS cl sz = true) (h2 : mayB x y sz sz = true) (h3 : W.has x y = true) (h4 : W.has (x + sz - 1) (y + sz - 1) = true) (h5 : ∀ a b, hasB x y sz sz a b = true → W.free cl a b = true) : W.stands cl sz x y = true := by
  have hf : footR cl sz x y = (x, y, sz, sz) := by unfold footR; rw [h1, h2]; rfl
  unfold Wd.stands
  rw [hf]
  have hl := may_last h2
  simp only [withinB, Bool.and_eq_true, Bool.not_eq_true', hl.1, hl.2]
  refine ⟨⟨⟨h2, h3⟩, h4⟩, ?_⟩
  rw [List.any_eq_false]
  rintro ⟨a, b⟩ hab
  simpa using h5 a b (cellsP_mem.1 hab)
theorem stands_small {W : Wd} {cl sz x y n : Int} (h : W.stands cl sz x y = true) (hn : 1 ≤ n ∧ n ≤ sz) : W.stands cl n x y = true := by
  obtain ⟨-, h1, h2, h3, h4, h5⟩ := stands_in h
  have hm := may_sub h2 hn hn
  refine stands_of ?_ hm h3 ?_ fun a b hab => h5 a b ?_
  · simp only [mayS, Bool.and_eq_true, decide_eq_true_eq] at h1 ⊢; omega
  · have a1 := has_iff.1 h3
    have a2 := has_iff.1 h4
    exact has_iff.2 ⟨a1.1, by omega⟩
  · have := has_iff.1 hab
    exact has_iff.2 ⟨h2, by omega⟩
section
variable {β : Type} {lt : β → β → Bool}
def swp (L : List β) (i j : Nat) : List β := match L[i]?, L[j]? with
  | some a, some b => (L.set i b).set j a
  | _, _ => L
def upH (lt : β → β → Bool) : Nat → Nat → List β → List β
  | 0, _, L => L
  | f + 1, i, L => if i = 0 then L else match L[i]?, L[(i - 1) / 2]? with
    | some a, some b => if lt a b then upH lt f ((i - 1) / 2) (swp L i ((i - 1) / 2)) else L
    | _, _ => L
/-- Which child is looked at. -/
def kidH (lt : β → β → Bool) (L : List β) (i : Nat) : Nat := match L[2 * i + 1]?, L[2 * i + 1 + 1]? with
  | some a, some b => if lt b a then 2 * i + 1 + 1 else 2 * i + 1
  | _, _ => 2 * i + 1
def downH (lt : β → β → Bool) : Nat → Nat → List β → List β
  | 0, _, L => L
  | f + 1, i, L => match L[kidH lt L i]?, L[i]? with
    | some a, some b => if lt a b then downH lt f (kidH lt L i) (swp L i (kidH lt L i)) else L
    | _, _ => L
end
abbrev It := Int × Int × Int
def aheadI (a b : Int) : Bool := decide (a / 4 < b / 4)
def hlt (a b : It) : Bool := aheadI a.1 b.1 || (!aheadI b.1 a.1 && decide (a.2.2 < b.2.2))
/-- Popping: the plain act. -/
def popL (L : List It) : List It := match L[L.length - 1]? with
  | some x => downH hlt L.length 0 ((L.set 0 x).take (L.length - 1))
  | none => []
theorem u1 : upH hlt 1 0 [((9 : Int), (0 : Int), (0 : Int))] = [(9, 0, 0)] := by decide +kernel
theorem u2 : upH hlt 2 1 [((9 : Int), (0 : Int), (0 : Int)), (1, 0, 1)] = [(1, 0, 1), (9, 0, 0)] := by decide +kernel
theorem u3 : popL [((1 : Int), (0 : Int), (1 : Int)), (9, 0, 0)] = [(9, 0, 0)] := by decide +kernel
abbrev Cl := Int × Int
def mvC (c : Cl) (d : Int) : Cl := (c.1 + turnX d, c.2 + turnY d)
theorem cost_pos {d : Int} (h : isDir d = true) : 10 ≤ costP d ∧ costP d ≤ 14 := by
  unfold costP
  rw [if_pos h]
  split <;> omega
section
variable (ok : Cl → Int → Bool)
/-- What some path costs. -/
inductive Pth (s : Cl) : Cl → Int → Prop
  | nil : Pth s s 0
  | step {c : Cl} {v d : Int} (h : Pth s c v) (hk : ok c d = true) : Pth s (mvC c d) (v + costP d)
/-- The least that a path costs. -/
def Mn (s c : Cl) (v : Int) : Prop := Pth ok s c v ∧ ∀ v', Pth ok s c v' → v ≤ v'
end
section
variable {ok : Cl → Int → Bool} {s : Cl}
theorem Pth.nn (hd : ∀ c d, ok c d = true → isDir d = true) {c : Cl} {v : Int} (h : Pth ok s c v) : 0 ≤ v ∧ (c ≠ s → 10 ≤ v) := by
  induction h with
  | nil => exact ⟨Int.le_refl _, fun h => absurd rfl h⟩
  | step h hk ih => have := cost_pos (hd _ _ hk); exact ⟨by omega, fun _ => by omega⟩
theorem exists_min {p : Int → Prop} (h0 : ∀ v, p v → 0 ≤ v) {v : Int} (h : p v) : ∃ m, p m ∧ ∀ v', p v' → m ≤ v' := by
  have key : ∀ (n : Nat) (v : Int), v.toNat ≤ n → p v → ∃ m, p m ∧ ∀ v', p v' → m ≤ v' := by
    intro n
    induction n with
    | zero => intro v hv hp; exact ⟨v, hp, fun v' h' => by have := h0 v hp; have := h0 v' h'; omega⟩
    | succ n ih =>
      intro v hv hp
      by_cases hc : ∃ v', p v' ∧ v' < v
      · obtain ⟨v', h1, h2⟩ := hc
        exact ih v' (by have := h0 v' h1; omega) h1
      · exact ⟨v, hp, fun v' h' => Int.not_lt.1 fun hlt => hc ⟨v', h', hlt⟩⟩
  exact key v.toNat v (Nat.le_refl _) h
theorem Pth.min (hd : ∀ c d, ok c d = true → isDir d = true) {c : Cl} {v : Int} (h : Pth ok s c v) : ∃ m, Mn ok s c m ∧ m ≤ v := by
  obtain ⟨m, h1, h2⟩ := exists_min (fun v h => (Pth.nn hd h).1) h
  exact ⟨m, ⟨h1, h2⟩, h2 _ h⟩
/-- What holds of a search, however far it has come: g: costs, dn: what was looked at, R: which steps were taken from there, E: what is still to be looked at. -/
structure SInv (ok : Cl → Int → Bool) (s : Cl) (g : Cl → Option Int) (dn : Cl → Bool) (R : Cl → Int → Prop) (E : Cl → Int → Prop) : Prop where
  p : ∀ x v, g x = some v → Pth ok s x v
  s0 : g s = some 0
  rd : ∀ x d, R x d → dn x = true
  r : ∀ x d, R x d → ok x d = true → ∃ v v', g x = some v ∧ g (mvC x d) = some v' ∧ v' ≤ v + costP d
  dm : ∀ x, dn x = true → ∃ v, g x = some v ∧ ∀ v', Pth ok s x v' → v ≤ v'
  u : ∀ x v, g x = some v → dn x = false → E x v
  e : ∀ x v, E x v → ∃ v', g x = some v' ∧ v' ≤ v ∧ Pth ok s x v
variable {g : Cl → Option Int} {dn : Cl → Bool} {R : Cl → Int → Prop} {E : Cl → Int → Prop}
/-- Along any path: either it was looked at, or something ahead of it waits. -/
theorem SInv.reach (I : SInv ok s g dn R E) (hR : ∀ x d, dn x = true → ok x d = true → R x d) {h : Cl → Int} (hh : ∀ c d, ok c d = true → h c ≤ costP d + h (mvC c d)) {x : Cl} {v : Int} (hp : Pth ok s x v) :
    (dn x = true ∧ ∃ v', g x = some v' ∧ v' ≤ v) ∨ ∃ y w, g y = some w ∧ dn y = false ∧ w + h y ≤ v + h x := by
  induction hp with
  | nil =>
    cases hd : dn s with
    | true => exact .inl ⟨rfl, 0, I.s0, Int.le_refl _⟩
    | false => exact .inr ⟨s, 0, I.s0, hd, Int.le_refl _⟩
  | @step c v d hp hk ih =>
    rcases ih with ⟨h1, v', h2, h3⟩ | ⟨y, w, h1, h2, h3⟩
    · obtain ⟨a, b, q1, q2, q3⟩ := I.r c d (hR c d h1 hk) hk
      rw [h2] at q1; cases q1
      cases hd : dn (mvC c d) with
      | true => exact .inl ⟨rfl, b, q2, by omega⟩
      | false => exact .inr ⟨_, b, q2, hd, by omega⟩
    · exact .inr ⟨y, w, h1, h2, by have := hh c d hk; omega⟩
/-- What comes first, and was not looked at, is told right. -/
theorem SInv.first (I : SInv ok s g dn R E) (hR : ∀ x d, dn x = true → ok x d = true → R x d) {h : Cl → Int} (hh : ∀ c d, ok c d = true → h c ≤ costP d + h (mvC c d)) {c : Cl} {v : Int} (hE : E c v) (hc : dn c = false) (hmin : ∀ y w, E y w → v + h c ≤ w + h y) :
    g c = some v ∧ ∀ v', Pth ok s c v' → v ≤ v' := by
  have hm : ∀ v', Pth ok s c v' → v ≤ v' := by
    intro v' hp
    rcases I.reach hR hh hp with ⟨h1, _⟩ | ⟨y, w, h1, h2, h3⟩
    · rw [hc] at h1; cases h1
    · have := hmin y w (I.u y w h1 h2)
      omega
  obtain ⟨v', h1, h2, _⟩ := I.e c v hE
  have := hm v' (I.p c v' h1)
  obtain rfl : v' = v := by omega
  exact ⟨h1, hm⟩
theorem SInv.skip (I : SInv ok s g dn R E) {E' : Cl → Int → Prop} {c : Cl} (hc : dn c = true) (h1 : ∀ x v, E' x v → E x v) (h2 : ∀ x v, E x v → x ≠ c → E' x v) : SInv ok s g dn R E' :=
  { I with u := fun x v hg hd => h2 x v (I.u x v hg hd) (fun e => by subst e; rw [hc] at hd; cases hd), e := fun x v h => I.e x v (h1 x v h) }
theorem SInv.take (I : SInv ok s g dn R E) {E' : Cl → Int → Prop} {c : Cl} {v : Int} (hc : g c = some v ∧ ∀ v', Pth ok s c v' → v ≤ v') (h1 : ∀ x v, E' x v → E x v) (h2 : ∀ x v, E x v → x ≠ c → E' x v) : SInv ok s g (fun x => if x = c then true else dn x) R E' :=
  { I with
    rd := fun x d h => by have := I.rd x d h; split <;> first | rfl | exact this
    dm := fun x h => by
      try dsimp only at h
      split at h
      · rename_i e; subst e; exact ⟨v, hc⟩
      · exact I.dm x h
    u := fun x w hg hd => by
      try dsimp only at hd
      split at hd
      · cases hd
      · rename_i hne; exact h2 x w (I.u x w hg hd) hne
    e := fun x v h => I.e x v (h1 x v h) }
/-- A search that is at its end, as far as B minds: what lies within B was looked at. -/
structure SFin (ok : Cl → Int → Bool) (s : Cl) (g : Cl → Option Int) (dn : Cl → Bool) (h : Cl → Int) (B : Option Int) : Prop where
  p : ∀ x v, g x = some v → Pth ok s x v
  dm : ∀ x, dn x = true → ∃ v, g x = some v ∧ Mn ok s x v
  all : ∀ x v, Pth ok s x v → (∀ b, B = some b → v + h x ≤ b) → dn x = true
theorem SInv.fin (I : SInv ok s g dn R E) (hR : ∀ x d, dn x = true → ok x d = true → R x d) {h : Cl → Int} (hh : ∀ c d, ok c d = true → h c ≤ costP d + h (mvC c d)) {B : Option Int} (hB : ∀ x v, E x v → ∃ b, B = some b ∧ b < v + h x) : SFin ok s g dn h B where
  p := I.p
  dm x hx := by obtain ⟨v, h1, h2⟩ := I.dm x hx; exact ⟨v, h1, I.p x v h1, h2⟩
  all x v hp hb := by
    rcases I.reach hR hh hp with ⟨h1, _⟩ | ⟨y, w, h1, h2, h3⟩
    · exact h1
    · obtain ⟨b, hb1, hb2⟩ := hB y w (I.u y w h1 h2)
      have := hb b hb1
      omega
end
section
variable (ok : Cl → Int → Bool) (s : Cl)
def Good (c : Cl) (d : Int) : Prop := ok c d = true ∧ ∃ v, Mn ok s (mvC c d) v ∧ Mn ok s c (v + costP d)
end
section
variable {ok : Cl → Int → Bool} {s : Cl}
theorem Pth.trans {a b c : Cl} {v w : Int} (h : Pth ok a b v) (k : Pth ok b c w) : Pth ok a c (v + w) := by
  induction k with
  | nil => simpa using h
  | step k hk ih => rw [← Int.add_assoc]; exact .step ih hk
end
/-- A rectangle's cells. -/
structure Bx where
  x : Int
  y : Int
  w : Int
  h : Int
def Bx.has (r : Bx) (c : Cl) : Bool := decide (r.x ≤ c.1) && decide (c.1 < r.x + r.w) && (decide (r.y ≤ c.2) && decide (c.2 < r.y + r.h))
def Bx.ix (r : Bx) (c : Cl) : Nat := ((c.2 - r.y) * r.w + (c.1 - r.x)).toNat
def Bx.at (r : Bx) (i : Nat) : Cl := (r.x + ((i % r.w.toNat : Nat) : Int), r.y + ((i / r.w.toNat : Nat) : Int))
def Bx.n (r : Bx) : Nat := r.w.toNat * r.h.toNat
theorem Bx.has_iff {r : Bx} {c : Cl} : r.has c = true ↔ (r.x ≤ c.1 ∧ c.1 < r.x + r.w) ∧ (r.y ≤ c.2 ∧ c.2 < r.y + r.h) := by simp [Bx.has]
theorem Bx.ix_lt {r : Bx} {c : Cl} (h : r.has c = true) : r.ix c < r.n ∧ r.at (r.ix c) = c ∧ (c.2 - r.y) * r.w + (c.1 - r.x) = (r.ix c : Int) ∧ r.ix c = (c.2 - r.y).toNat * r.w.toNat + (c.1 - r.x).toNat := by
  obtain ⟨⟨h1, h2⟩, h3, h4⟩ := Bx.has_iff.1 h
  obtain ⟨a, ha⟩ : ∃ a : Nat, c.1 - r.x = a := ⟨(c.1 - r.x).toNat, by omega⟩
  obtain ⟨b, hb⟩ : ∃ b : Nat, c.2 - r.y = b := ⟨(c.2 - r.y).toNat, by omega⟩
  obtain ⟨w, hw⟩ : ∃ w : Nat, r.w = w := ⟨r.w.toNat, by omega⟩
  obtain ⟨h, hh⟩ : ∃ h : Nat, r.h = h := ⟨r.h.toNat, by omega⟩
  have e0 : (b : Int) * (w : Int) + (a : Int) = ((b * w + a : Nat) : Int) := by rw [Int.natCast_add, Int.natCast_mul]
  have hix : r.ix c = b * w + a := by unfold Bx.ix; rw [ha, hb, hw, e0, Int.toNat_natCast]
  have haw : a < w := by omega
  have hbh : b < h := by omega
  have hle : (b + 1) * w ≤ h * w := Nat.mul_le_mul_right _ hbh
  rw [Nat.add_mul, Nat.one_mul] at hle
  refine ⟨?_, ?_, ?_, ?_⟩
  · rw [hix]; unfold Bx.n; rw [hw, hh, Int.toNat_natCast, Int.toNat_natCast, Nat.mul_comm w h]; omega
  · unfold Bx.at
    rw [hix, hw, Int.toNat_natCast]
    have q1 : (b * w + a) % w = a := by rw [Nat.mul_comm, Nat.mul_add_mod, Nat.mod_eq_of_lt haw]
    have q2 : (b * w + a) / w = b := by rw [Nat.mul_comm, Nat.mul_add_div (by omega), Nat.div_eq_of_lt haw, Nat.add_zero]
    rw [q1, q2]
    exact Prod.ext (by dsimp only; omega) (by dsimp only; omega)
  · rw [hix, ha, hb, hw, e0]
  · rw [hix, ha, hb, hw, Int.toNat_natCast, Int.toNat_natCast, Int.toNat_natCast]
theorem Bx.at_has {r : Bx} {i : Nat} (h : i < r.n) : r.has (r.at i) = true ∧ r.ix (r.at i) = i := by
  unfold Bx.n at h
  have hw : 0 < r.w.toNat := by
    rcases Nat.eq_zero_or_pos r.w.toNat with e | e
    · rw [e, Nat.zero_mul] at h; omega
    · exact e
  have h1 : i % r.w.toNat < r.w.toNat := Nat.mod_lt _ hw
  have h2 : i / r.w.toNat < r.h.toNat := by rw [Nat.div_lt_iff_lt_mul hw, Nat.mul_comm]; exact h
  have hh : r.has (r.at i) = true := by
    rw [Bx.has_iff]
    unfold Bx.at
    dsimp only
    generalize i % r.w.toNat = a at *
    generalize i / r.w.toNat = b at *
    omega
  refine ⟨hh, ?_⟩
  rw [(Bx.ix_lt hh).2.2.2]
  unfold Bx.at
  dsimp only
  have ee : ∀ (x : Int) (n : Nat), (x + (n : Int) - x).toNat = n := fun x n => by omega
  have e1 : (r.y + ((i / r.w.toNat : Nat) : Int) - r.y).toNat = i / r.w.toNat := ee _ _
  have e2 : (r.x + ((i % r.w.toNat : Nat) : Int) - r.x).toNat = i % r.w.toNat := ee _ _
  rw [e1, e2, Nat.mul_comm]
  exact Nat.div_add_mod i r.w.toNat
section
variable (ok : Cl → Int → Bool) (s : Cl) (r : Bx)
/-- The right numbers. -/
structure CostsOk (l : List Int) : Prop where
  len : l.length = r.n
  val : ∀ c, r.has c = true → ∃ v, l[r.ix c]? = some v ∧ ((0 ≤ v ∧ Mn ok s c v) ∨ (v = -1 ∧ ∀ w, ¬ Pth ok s c w))
def cntL (l : List Int) : Nat := l.countP fun v => decide (0 ≤ v)
structure BInv (l : List Int) : Prop where
  len : l.length = r.n
  p : ∀ c v, r.has c = true → l[r.ix c]? = some v → 0 ≤ v → Pth ok s c v
  s0 : l[r.ix s]? = some 0
  lo : ∀ v ∈ l, -1 ≤ v
  bd : ∀ v ∈ l, v + 14 ≤ 14 * (cntL l : Int)
def Rlx (l : List Int) (i : Nat) (d : Int) : Prop := ∀ v, l[i]? = some v → 0 ≤ v → ok (r.at i) d = true → ∃ w, l[r.ix (mvC (r.at i) d)]? = some w ∧ 0 ≤ w ∧ w ≤ v + costP d
end
section
variable {ok : Cl → Int → Bool} {s : Cl} {r : Bx}
theorem BInv.done {l : List Int} (I : BInv ok s r l) (hd : ∀ c d, ok c d = true → isDir d = true ∧ r.has c = true ∧ r.has (mvC c d) = true) (hs : r.has s = true) (hR : ∀ i, i < r.n → ∀ d, isDir d = true → Rlx ok r l i d) : CostsOk ok s r l := by
  have key : ∀ c v, Pth ok s c v → r.has c = true ∧ ∃ w, l[r.ix c]? = some w ∧ 0 ≤ w ∧ w ≤ v := by
    intro c v h
    induction h with
    | nil => exact ⟨hs, 0, I.s0, Int.le_refl _, Int.le_refl _⟩
    | @step c v d h hk ih =>
      obtain ⟨h1, w, h2, h3, h4⟩ := ih
      obtain ⟨d1, d2, d3⟩ := hd _ _ hk
      obtain ⟨q1, q2, q3, q4⟩ := Bx.ix_lt h1
      have := hR (r.ix c) q1 d d1
      unfold Rlx at this
      rw [q2] at this
      obtain ⟨u, u1, u2, u3⟩ := this w h2 h3 hk
      exact ⟨d3, u, u1, u2, by omega⟩
  refine ⟨I.len, fun c hc => ?_⟩
  have hlt : r.ix c < l.length := by rw [I.len]; exact (Bx.ix_lt hc).1
  obtain ⟨v, hv⟩ : ∃ v, l[r.ix c]? = some v := ⟨_, List.getElem?_eq_getElem hlt⟩
  refine ⟨v, hv, ?_⟩
  by_cases h0 : 0 ≤ v
  · refine .inl ⟨h0, I.p c v hc hv h0, fun w hw => ?_⟩
    obtain ⟨_, u, u1, u2, u3⟩ := key c w hw
    rw [hv] at u1; cases u1
    exact u3
  · refine .inr ⟨by have := I.lo v (List.mem_of_getElem? hv); omega, fun w hw => ?_⟩
    obtain ⟨_, u, u1, u2, u3⟩ := key c w hw
    rw [hv] at u1; cases u1
    exact h0 u2
end
theorem store_ownY {α : Type} {d : Fl α} {H : Hp} {v : SV} {l : List α} (hd : d.Even) (hp : 0 < d.sz) (hok : ∀ a : α, SV.cellsOk 0 0 (d.enc a) = true) (hx : ∀ a : α, SV.hxs (d.enc a) = 0) (hv : Own d H v l) {i : Nat} (hi : i < l.length) (a : α) :
    ∃ H', (∀ Y : Mem, Y.heap = H → (∀ i ∈ slFp v, Y.hb ≤ i) → Y.store (.hp (slN v) (slW v)) (slO v + i * d.sz) (d.enc a) = some (Y.hp H')) ∧ Own d H' v (l.set i a) ∧ Keep (slFp v) H H' ∧ H'.length = H.length := by
  obtain ⟨H', h1, h2, h3, h4⟩ := store_own hd hp hok hx hv hi (⟨[], H, 0, 0, none⟩ : Mem) (fun _ _ => Nat.zero_le _) a
  refine ⟨H', fun Y hY hYb => ?_, h2, h3, h4⟩
  have := h1 [] none
  rcases hv with ⟨rfl, rfl⟩ | ⟨rfl, rfl⟩ | ⟨n, w, off, cap, c, rfl, q1, q2, q3⟩
  · simp at hi
  · simp at hi
  · subst hY
    have g1 : Y.get (.hp n w) = some (.cells true c) := q1
    have g2 : Y.may (.hp n w) = true := decide_eq_true (hYb n (by simp [slFp]))
    have g1' : (((⟨[], Y.heap, 0, 0, none⟩ : Mem).hp Y.heap).fr [] none).get (.hp n w) = some (.cells true c) := q1
    have g2' : (((⟨[], Y.heap, 0, 0, none⟩ : Mem).hp Y.heap).fr [] none).may (.hp n w) = true := rfl
    have hle : (i + 1) * d.sz ≤ l.length * d.sz := Nat.mul_le_mul_right _ hi
    rw [Nat.add_mul, Nat.one_mul] at hle
    simp only [Mem.store, slN, slW, slO, g1', g2', Bk.room, hok a, true_and, if_true, hd.len, hx a] at this
    rw [if_pos (by omega)] at this
    simp only [Mem.store, slN, slW, slO, g1, g2, Bk.room, hok a, true_and, if_true, hd.len, hx a]
    rw [if_pos (by omega)]
    simp only [Option.some.injEq] at this ⊢
    have e1 := congrArg Mem.heap this
    simp only [Mem.note, Mem.set, Mem.fr, Mem.hp, Nat.zero_le, if_true] at e1 ⊢
    rw [← e1]
theorem KL_indX {F : Tbl} {K : List KI} {α ρ : Type} {k : Nat} {ks : Option (List Nat)} {c : SCode} {cond : Mem → Prop} {G : Mem → Option (SEx × Fr × Mem) → ρ → Prop} {Q : ρ → Prop} (μ : α → Nat) (frf : α → Fr) (memf : Mem → α → Mem) (I : α → Prop)
    (step : ∀ a, I a → (∀ b, I b → μ b < μ a → ∃ r, Q r ∧ ∀ X, cond X → G X (KL F K k ks c (frf b) (memf X b)) r) → ∃ r, Q r ∧ ∀ X, cond X → G X (KH F K k ks c (headL k ks (frf a) (memf X a))) r) :
    ∀ a, I a → ∃ r, Q r ∧ ∀ X, cond X → G X (KL F K k ks c (frf a) (memf X a)) r := by
  have key : ∀ n a, μ a < n → I a → ∃ r, Q r ∧ ∀ X, cond X → G X (KL F K k ks c (frf a) (memf X a)) r := by
    intro n
    induction n with
    | zero => intro a h; omega
    | succ n ih =>
      intro a h hI
      obtain ⟨r, h1, h2⟩ := step a hI fun b hb hlt => ih b (by omega) hb
      exact ⟨r, h1, fun X hX => by rw [KL_go]; exact h2 X hX⟩
  exact fun a => key (μ a + 1) a (by omega)
def Wd.clr (W : Wd) (cl x y : Int) : Int := if W.stands cl 4 x y then 4 else if W.stands cl 3 x y then 3 else if W.stands cl 2 x y then 2 else if W.stands cl 1 x y then 1 else 0
theorem clr_in (W : Wd) (cl x y : Int) : 0 ≤ W.clr cl x y ∧ W.clr cl x y ≤ 4 := by
  unfold Wd.clr
  split
  · decide
  · split
    · decide
    · split
      · decide
      · split <;> decide
theorem clr_uniq {W : Wd} {cl x y n : Int} (h0 : 0 ≤ n ∧ n ≤ 4) (h : ∀ s, 1 ≤ s → s ≤ 4 → (W.stands cl s x y = true ↔ s ≤ n)) : W.clr cl x y = n := by
  have h1 := h 1 (by decide) (by decide)
  have h2 := h 2 (by decide) (by decide)
  have h3 := h 3 (by decide) (by decide)
  have h4 := h 4 (by decide) (by decide)
  unfold Wd.clr
  simp only [h1, h2, h3, h4]
  split
  · omega
  · split
    · omega
    · split
      · omega
      · split <;> omega
theorem clr_iff {W : Wd} {cl x y s : Int} (h1 : 1 ≤ s) (h2 : s ≤ 4) : W.stands cl s x y = true ↔ s ≤ W.clr cl x y := by
  have m4 : W.stands cl 4 x y = true → W.stands cl 3 x y = true := fun h => stands_small h (by decide)
  have m3 : W.stands cl 3 x y = true → W.stands cl 2 x y = true := fun h => stands_small h (by decide)
  have m2 : W.stands cl 2 x y = true → W.stands cl 1 x y = true := fun h => stands_small h (by decide)
  have hs : s = 1 ∨ s = 2 ∨ s = 3 ∨ s = 4 := by omega
  unfold Wd.clr
  rcases hs with rfl | rfl | rfl | rfl
  all_goals
    generalize W.stands cl 4 x y = b4 at *
    generalize W.stands cl 3 x y = b3 at *
    generalize W.stands cl 2 x y = b2 at *
    generalize W.stands cl 1 x y = b1 at *
    cases b4 <;> cases b3 <;> cases b2 <;> cases b1 <;> simp_all
theorem last_eq {x t : Int} (hx : -1000000 ≤ x ∧ x ≤ 1000000) (ht : -1000000 ≤ t ∧ t ≤ 1000000) : lastX x t = x + t - 1 := by
  unfold lastX
  rw [wrap_small (x := x + t) (by omega) (by omega), wrap_small (x := x + t - 1) (by omega) (by omega)]
theorem mayB_small {x y t : Int} (hx : -10 ≤ x ∧ x ≤ 200) (hy : -10 ≤ y ∧ y ≤ 200) (ht : 1 ≤ t ∧ t ≤ 10) : mayB x y t t = true := by
  rw [mayB, last_eq (by omega) (by omega), last_eq (by omega) (by omega)]
  simp only [nearC, nearP, sideB, Bool.and_eq_true, decide_eq_true_eq]
  omega
theorem mayS_in {cl sz : Int} : mayS cl sz = true ↔ (0 ≤ cl ∧ cl < 4) ∧ 1 ≤ sz ∧ sz ≤ 4 := by
  simp only [mayS, Bool.and_eq_true, decide_eq_true_eq]; omega
theorem has_w {W : Wd} (w1 : 1 ≤ W.w ∧ W.w ≤ 128) (w2 : 1 ≤ W.h ∧ W.h ≤ 128) {a b : Int} : W.has a b = true ↔ 0 ≤ a ∧ a < W.w ∧ 0 ≤ b ∧ b < W.h := by
  unfold Wd.has
  rw [has_iff]
  constructor
  · intro h; omega
  · intro h
    refine ⟨?_, by omega⟩
    rw [mayB, last_eq (by omega) (by omega), last_eq (by omega) (by omega)]
    simp only [nearC, nearP, sideB, Bool.and_eq_true, decide_eq_true_eq]
    omega
theorem stands_iff {W : Wd} (w1 : 1 ≤ W.w ∧ W.w ≤ 128) (w2 : 1 ≤ W.h ∧ W.h ≤ 128) {cl sz x y : Int} : W.stands cl sz x y = true ↔ ((0 ≤ cl ∧ cl < 4) ∧ 1 ≤ sz ∧ sz ≤ 4) ∧ (0 ≤ x ∧ x + sz ≤ W.w) ∧ (0 ≤ y ∧ y + sz ≤ W.h) ∧ ∀ a b, x ≤ a → a < x + sz → y ≤ b → b < y + sz → W.free cl a b = true := by
  constructor
  · intro h
    obtain ⟨h1, h2, h3, h4, h5, h6⟩ := stands_in h
    rw [has_w w1 w2] at h4 h5
    rw [mayS_in] at h2
    refine ⟨h2, by omega, by omega, fun a b a1 a2 b1 b2 => h6 a b (has_iff.2 ⟨h3, by omega⟩)⟩
  · rintro ⟨h1, h2, h3, h4⟩
    refine stands_of (mayS_in.2 h1) (mayB_small (by omega) (by omega) (by omega)) ((has_w w1 w2).2 (by omega)) ((has_w w1 w2).2 (by omega)) fun a b hab => ?_
    have := has_iff.1 hab
    exact h4 a b (by omega) (by omega) (by omega) (by omega)
theorem stands_grow {W : Wd} (w1 : 1 ≤ W.w ∧ W.w ≤ 128) (w2 : 1 ≤ W.h ∧ W.h ≤ 128) {cl t x y : Int} (ht : 1 ≤ t ∧ t ≤ 3) : W.stands cl (t + 1) x y = true ↔ W.stands cl 1 x y = true ∧ W.stands cl t (x + 1) y = true ∧ W.stands cl t x (y + 1) = true ∧ W.stands cl t (x + 1) (y + 1) = true := by
  simp only [stands_iff w1 w2]
  constructor
  · rintro ⟨h1, h2, h3, h4⟩
    refine ⟨⟨by omega, by omega, by omega, fun a b _ _ _ _ => h4 a b (by omega) (by omega) (by omega) (by omega)⟩, ⟨by omega, by omega, by omega, fun a b _ _ _ _ => h4 a b (by omega) (by omega) (by omega) (by omega)⟩, ⟨by omega, by omega, by omega, fun a b _ _ _ _ => h4 a b (by omega) (by omega) (by omega) (by omega)⟩, ⟨by omega, by omega, by omega, fun a b _ _ _ _ => h4 a b (by omega) (by omega) (by omega) (by omega)⟩⟩
  · rintro ⟨⟨a1, a2, a3, a4⟩, ⟨b1, b2, b3, b4⟩, ⟨c1, c2, c3, c4⟩, ⟨d1, d2, d3, d4⟩⟩
    refine ⟨by omega, by omega, by omega, fun a b e1 e2 e3 e4 => ?_⟩
    by_cases f1 : x + 1 ≤ a
    · by_cases f2 : b < y + t
      · exact b4 a b f1 (by omega) (by omega) (by omega)
      · exact d4 a b f1 (by omega) (by omega) (by omega)
    · by_cases f2 : y + 1 ≤ b
      · exact c4 a b (by omega) (by omega) f2 (by omega)
      · exact a4 a b (by omega) (by omega) (by omega) (by omega)
theorem mnI_eqF (a b : Int) : (mnI a b = a ∨ mnI a b = b) ∧ mnI a b ≤ a ∧ mnI a b ≤ b := by unfold mnI; split <;> omega
theorem clr_step {W : Wd} (w1 : 1 ≤ W.w ∧ W.w ≤ 128) (w2 : 1 ≤ W.h ∧ W.h ≤ 128) (cl x y : Int) : W.clr cl x y = if W.stands cl 1 x y then 1 + mnI (mnI (mnI (W.clr cl (x + 1) y) (W.clr cl x (y + 1))) (W.clr cl (x + 1) (y + 1))) 3 else 0 := by
  have i1 := clr_in W cl (x + 1) y
  have i2 := clr_in W cl x (y + 1)
  have i3 := clr_in W cl (x + 1) (y + 1)
  have e1 := mnI_eqF (W.clr cl (x + 1) y) (W.clr cl x (y + 1))
  have e2 := mnI_eqF (mnI (W.clr cl (x + 1) y) (W.clr cl x (y + 1))) (W.clr cl (x + 1) (y + 1))
  have e3 := mnI_eqF (mnI (mnI (W.clr cl (x + 1) y) (W.clr cl x (y + 1))) (W.clr cl (x + 1) (y + 1))) 3
  split
  · rename_i h1
    refine clr_uniq (by omega) fun s s1 s2 => ?_
    by_cases hs : s = 1
    · subst hs
      exact ⟨fun _ => by omega, fun _ => h1⟩
    · have hg := stands_grow w1 w2 (cl := cl) (t := s - 1) (x := x) (y := y) (by omega)
      rw [show s - 1 + 1 = s by omega] at hg
      rw [hg, clr_iff (s := s - 1) (by omega) (by omega), clr_iff (s := s - 1) (by omega) (by omega), clr_iff (s := s - 1) (by omega) (by omega)]
      constructor
      · rintro ⟨_, g1, g2, g3⟩; omega
      · intro g; exact ⟨h1, by omega, by omega, by omega⟩
  · rename_i h1
    refine clr_uniq (by omega) fun s s1 s2 => ⟨fun h => absurd (stands_small h ⟨by decide, s1⟩) h1, fun h => by omega⟩
abbrev iF : Fl Int := Fl.int .i64
theorem iF_even : iF.Even := ⟨fun _ => rfl⟩
theorem _root_.Go.Sh.LiesD.iaddrI {m : Mem} {v : SV} {l : List Int} (h : LiesD iF m v l) {i : Int} (h0 : 0 ≤ i) (hi : i < l.length) (k : IntKind) (m' : Mem) : iaddrV 1 v (.int k i) m' = some (.ptr (.hp (slN v) (slW v)) (slO v + i.toNat), m') := by
  have := LiesD.iaddr h (i := i.toNat) (by omega) k m'
  rw [show iF.sz = 1 from rfl, Nat.mul_one, Int.toNat_of_nonneg h0] at this
  exact this
theorem _root_.Go.Sh.LiesD.loadI {m : Mem} {v : SV} {l : List Int} (h : LiesD iF m v l) {i : Nat} {a : Int} (hi : l[i]? = some a) {X : Mem} (hX : HpSub m X) : X.load (.hp (slN v) (slW v)) (slO v + i) none = some (.int .i64 a) := by
  have := LiesD.load1 iF_even (h.sub hX) hi (j := 0) (by decide)
  rw [show iF.sz = 1 from rfl, Nat.mul_one, Nat.add_zero] at this
  exact this
theorem storeI {H : Hp} {v : SV} {l : List Int} (hv : Own iF H v l) {i : Nat} (hi : i < l.length) (X : Mem) (hm : ∀ i ∈ slFp v, X.hb ≤ i) (a : Int) :
    ∃ H', (∀ f e, ((X.hp H).fr f e).store (.hp (slN v) (slW v)) (slO v + i) [.int .i64 a] = some ((X.hp H').fr f e)) ∧ Own iF H' v (l.set i a) ∧ Keep (slFp v) H H' ∧ H'.length = H.length := by
  obtain ⟨H', h1, h2⟩ := store_own iF_even (by decide) (fun _ => rfl) (fun _ => rfl) hv hi X hm a
  refine ⟨H', fun f e => ?_, h2⟩
  have := h1 f e
  rw [show iF.sz = 1 from rfl, Nat.mul_one] at this
  exact this
abbrev fieldC (p : WP) (W : Wd) (cl : Int) (lv : SV) (ep : Int) : List SV := [.ptr (.hp p.k 0) 0, .int .i64 cl, .int .i64 0, .int .i64 0, .int .i64 W.w, .int .i64 W.h, lv, .int .i64 ep]
structure FieldAt (m : Mem) (k : Nat) (p : WP) (W : Wd) (cl : Int) (lv : SV) (ep : Int) (L : List Int) : Prop where
  hd : m.get (.hp k 0) = some (.cells true (fieldC p W cl lv ep))
  ll : LiesD iF m lv L
  len : L.length = W.w.toNat * W.h.toNat
  w1 : 1 ≤ W.w ∧ W.w ≤ 128
  h1 : 1 ≤ W.h ∧ W.h ≤ 128
theorem FieldAt.ld {m : Mem} {k : Nat} {p : WP} {W : Wd} {cl : Int} {lv : SV} {ep : Int} {L : List Int} (hF : FieldAt m k p W cl lv ep L) {X : Mem} (hX : HpSub m X) (off : Nat) (n : Option Nat) : X.load (.hp k 0) off n = partv (fieldC p W cl lv ep) off n := by rw [load_get, hX _ _ _ hF.hd]
theorem FieldAt.sub {m : Mem} {k : Nat} {p : WP} {W : Wd} {cl : Int} {lv : SV} {ep : Int} {L : List Int} (hF : FieldAt m k p W cl lv ep L) {X : Mem} (hX : HpSub m X) : FieldAt X k p W cl lv ep L := ⟨hX _ _ _ hF.hd, hF.ll.sub hX, hF.len, hF.w1, hF.h1⟩
def Wd.at' (W : Wd) (L : List Int) (x y : Int) : Int := if W.has x y then L.getD (y * W.w + x).toNat 0 else 0
theorem idx_in {W : Wd} (w1 : 1 ≤ W.w ∧ W.w ≤ 128) (w2 : 1 ≤ W.h ∧ W.h ≤ 128) {x y : Int} (h : W.has x y = true) : 0 ≤ y * W.w ∧ y * W.w ≤ 16384 ∧ 0 ≤ x ∧ x < W.w ∧ 0 ≤ y ∧ y < W.h ∧ (y * W.w + x).toNat = y.toNat * W.w.toNat + x.toNat ∧ y.toNat * W.w.toNat + x.toNat < W.w.toNat * W.h.toNat := by
  have h1 := (has_w w1 w2).1 h
  have e5 : y * W.w = ((y.toNat * W.w.toNat : Nat) : Int) := by rw [Int.natCast_mul, Int.toNat_of_nonneg h1.2.2.1, Int.toNat_of_nonneg (show 0 ≤ W.w by omega)]
  have e6 : W.w.toNat * (y.toNat + 1) ≤ W.w.toNat * W.h.toNat := Nat.mul_le_mul_left _ (by omega)
  have e4 : W.w.toNat * W.h.toNat ≤ 128 * 128 := Nat.mul_le_mul (by omega) (by omega)
  rw [Nat.mul_add, Nat.mul_comm] at e6
  omega
theorem r_clear_At {m : Mem} {k : Nat} {p : WP} {W : Wd} {cl : Int} {lv : SV} {ep : Int} {L : List Int} (hF : FieldAt m k p W cl lv ep L) {X : Mem} (hX : HpSub m X) (hw : X.Wf) (x y : Int) : RF tb f_clear_Field_At [.ptr (.hp k 0) 0, cellV x y] X = some (.int .i64 (W.at' L x y), X) := by
  rw [RF_go t_clear_Field_At _ _ rfl]
  simp (maxDischargeDepth := 8) only [go_sem, s_clear_Field_At, cellV, hw, hX, hF.ld, fieldC, r_cell_Has]
  unfold Wd.at'
  cases h1 : W.has x y with
  | false =>
    have h1' : hasB 0 0 W.w W.h x y = false := h1
    simp (maxDischargeDepth := 8) only [go_sem, hw, h1']
  | true =>
    have h1' : hasB 0 0 W.w W.h x y = true := h1
    have w1 := hF.w1
    have w2 := hF.h1
    obtain ⟨i1, i2, i3, i4, i5, i6, i7, i8⟩ := idx_in w1 w2 h1
    have hel : L[(y * W.w + x).toNat]? = some (L.getD (y * W.w + x).toNat 0) := by
      rw [List.getD_eq_getElem?_getD]
      have : (y * W.w + x).toNat < L.length := by rw [hF.len]; omega
      rw [List.getElem?_eq_getElem this]
      rfl
    simp (maxDischargeDepth := 8) only [go_sem, hw, hX, h1', hF.ld, fieldC, wrap_small (x := y * W.w) (by omega) (by omega), wrap_small (x := y * W.w + x) (by omega) (by omega), LiesD.iaddrI hF.ll (i := y * W.w + x) (by omega) (by rw [hF.len]; omega), hF.ll.loadI hel]
theorem r_clear_tile {m : Mem} {k : Nat} {p : WP} {W : Wd} {cl : Int} {lv : SV} {ep : Int} {L : List Int} (hF : FieldAt m k p W cl lv ep L) (hW : WorldAt m p W) (hg : W.Good) {X : Mem} (hX : HpSub m X) (hw : X.Wf) (x y : Int) : RF tb f_clear_Field_tile [.ptr (.hp k 0) 0, cellV x y] X = some (.bool (W.stands cl 1 x y), X) := by
  rw [RF_go t_clear_Field_tile _ _ rfl]
  simp (maxDischargeDepth := 8) only [go_sem, s_clear_Field_tile, cellV, hw, hX, hF.ld, fieldC, r_class_Stands hW hg]
theorem r_grid_World_Epoch {m : Mem} {p : WP} {W : Wd} (hW : WorldAt m p W) {X : Mem} (hX : HpSub m X) (hw : X.Wf) : RF tb f_grid_World_Epoch [.ptr (.hp p.k 0) 0] X = some (.int .i64 W.dirty.length, X) := by
  rw [RF_go t_grid_World_Epoch _ _ rfl]
  simp (maxDischargeDepth := 8) only [go_sem, s_grid_World_Epoch, hw, hX, r_grid_World_is hW, hW.ld, hW.dl.len]
theorem clr_out {W : Wd} {cl x y : Int} (h : W.has x y = false) : W.clr cl x y = 0 := by
  have : ∀ s, W.stands cl s x y = false := fun s => by
    cases h1 : W.stands cl s x y with
    | false => rfl
    | true => rw [stands_has h1] at h; cases h
  simp [Wd.clr, this]
/-- Known: all cells behind one. -/
def Wd.knows (W : Wd) (cl : Int) (L : List Int) (yn xn : Nat) : Prop := ∀ a b : Nat, a < W.w.toNat → b < W.h.toNat → (yn + 1 ≤ b ∨ (b = yn ∧ xn ≤ a)) → L[b * W.w.toNat + a]? = some (W.clr cl a b)
theorem knows_at {W : Wd} (w1 : 1 ≤ W.w ∧ W.w ≤ 128) (w2 : 1 ≤ W.h ∧ W.h ≤ 128) {cl : Int} {L : List Int} {yn xn : Nat} (hk : W.knows cl L yn xn) {x y : Int} (h : (yn : Int) + 1 ≤ y ∨ (y = yn ∧ (xn : Int) ≤ x)) (h0 : 0 ≤ x) : W.at' L x y = W.clr cl x y := by
  unfold Wd.at'
  cases h1 : W.has x y with
  | false => rw [clr_out h1]; rfl
  | true =>
    obtain ⟨i1, i2, i3, i4, i5, i6, i7, i8⟩ := idx_in w1 w2 h1
    have := hk x.toNat y.toNat (by omega) (by omega) (by omega)
    rw [if_pos rfl, List.getD_eq_getElem?_getD, i7, this, Int.toNat_of_nonneg i3, Int.toNat_of_nonneg i5]
    rfl
theorem knows_set {W : Wd} {cl : Int} {L : List Int} {yn xn : Nat} (hlen : L.length = W.w.toNat * W.h.toNat) (hx : xn < W.w.toNat) (hy : yn < W.h.toNat) (hk : W.knows cl L yn (xn + 1)) : W.knows cl (L.set (yn * W.w.toNat + xn) (W.clr cl xn yn)) yn xn := by
  intro a b ha hb h
  have e6 : W.w.toNat * (yn + 1) ≤ W.w.toNat * W.h.toNat := Nat.mul_le_mul_left _ (by omega)
  rw [Nat.mul_add, Nat.mul_comm] at e6
  rw [List.getElem?_set]
  by_cases he : a = xn ∧ b = yn
  · obtain ⟨rfl, rfl⟩ := he
    rw [if_pos rfl, if_pos (by omega)]
  · rw [if_neg]
    · exact hk a b ha hb (by omega)
    · intro h5
      by_cases hbb : b = yn
      · subst hbb; exact he ⟨by omega, rfl⟩
      · have : W.w.toNat * (yn + 1) ≤ W.w.toNat * b := Nat.mul_le_mul_left _ (by omega)
        rw [Nat.mul_add, Nat.mul_comm W.w.toNat yn, Nat.mul_comm W.w.toNat b] at this
        omega
def Wd.clrs (W : Wd) (cl : Int) : List Int := (List.range (W.w.toNat * W.h.toNat)).map fun n => W.clr cl ((n % W.w.toNat : Nat) : Int) ((n / W.w.toNat : Nat) : Int)
theorem clrs_len (W : Wd) (cl : Int) : (W.clrs cl).length = W.w.toNat * W.h.toNat := by simp [Wd.clrs]
theorem clrs_at {W : Wd} {cl : Int} {x y : Nat} (hx : x < W.w.toNat) (hy : y < W.h.toNat) : (W.clrs cl)[y * W.w.toNat + x]? = some (W.clr cl x y) := by
  have h1 : y * W.w.toNat + x < W.w.toNat * W.h.toNat := by
    have : W.w.toNat * (y + 1) ≤ W.w.toNat * W.h.toNat := Nat.mul_le_mul_left _ hy
    rw [Nat.mul_add, Nat.mul_comm] at this
    omega
  have h2 : (y * W.w.toNat + x) % W.w.toNat = x := by rw [Nat.mul_comm, Nat.mul_add_mod, Nat.mod_eq_of_lt hx]
  have h3 : (y * W.w.toNat + x) / W.w.toNat = y := by rw [Nat.mul_comm, Nat.mul_add_div (by omega), Nat.div_eq_of_lt hx, Nat.add_zero]
  simp only [Wd.clrs, List.getElem?_map, List.getElem?_range h1, Option.map_some, h2, h3]
theorem knows_all {W : Wd} (w1 : 1 ≤ W.w) {cl : Int} {L : List Int} (hlen : L.length = W.w.toNat * W.h.toNat) (hk : ∀ a b : Nat, a < W.w.toNat → b < W.h.toNat → L[b * W.w.toNat + a]? = some (W.clr cl a b)) : L = W.clrs cl := by
  apply List.ext_getElem?
  intro n
  by_cases hn : n < W.w.toNat * W.h.toNat
  · have h1 : n % W.w.toNat < W.w.toNat := Nat.mod_lt _ (by omega)
    have h2 : n / W.w.toNat < W.h.toNat := Nat.div_lt_of_lt_mul hn
    have h3 : n / W.w.toNat * W.w.toNat + n % W.w.toNat = n := by rw [Nat.mul_comm]; exact Nat.div_add_mod _ _
    have := hk _ _ h1 h2
    have h4 := clrs_at (W := W) (cl := cl) h1 h2
    rw [h3] at this h4
    rw [this, h4]
  · rw [List.getElem?_eq_none (by omega), List.getElem?_eq_none (by rw [clrs_len]; omega)]
theorem clrs_get {W : Wd} (w1 : 1 ≤ W.w ∧ W.w ≤ 128) (w2 : 1 ≤ W.h ∧ W.h ≤ 128) (cl x y : Int) : W.at' (W.clrs cl) x y = W.clr cl x y := by
  unfold Wd.at'
  cases h1 : W.has x y with
  | false => rw [clr_out h1]; rfl
  | true =>
    obtain ⟨i1, i2, i3, i4, i5, i6, i7, i8⟩ := idx_in w1 w2 h1
    have := clrs_at (W := W) (cl := cl) (x := x.toNat) (y := y.toNat) (by omega) (by omega)
    rw [if_pos rfl, List.getD_eq_getElem?_getD, i7, this, Int.toNat_of_nonneg i3, Int.toNat_of_nonneg i5]
    rfl
theorem set_self {L : List Int} {i : Nat} {c : Int} (h : L[i]? = some c) : L.set i c = L := by
  apply List.ext_getElem?
  intro n
  rw [List.getElem?_set]
  split
  · rename_i h1
    subst h1
    rw [h]
    split
    · rfl
    · rename_i h2
      rw [List.getElem?_eq_none (by omega)] at h
      cases h
  · rfl
theorem r_clear_reckon {X : Mem} {k : Nat} {p : WP} {W : Wd} {cl : Int} {lv : SV} {ep : Int} {L : List Int} (hk : hget X.heap k 0 = some (.cells true (fieldC p W cl lv ep))) (ho : Own iF X.heap lv L) (hlen : L.length = W.w.toNat * W.h.toNat) (hkn : k ∉ slFp lv) (hpn : ∀ i ∈ p.fp, i ∉ slFp lv) (hm : ∀ i ∈ slFp lv, X.hb ≤ i) (hO : WorldOwn X.heap p W) (hg : W.Good) (hw : X.Wf) :
    ∃ (n : Int) (H' : Hp), RF tb f_clear_Field_reckon [.ptr (.hp k 0) 0, rect 0 0 W.w W.h] X = some (.int .i64 n, X.hp H') ∧ Own iF H' lv (W.clrs cl) ∧ Keep (slFp lv) X.heap H' ∧ H'.length = X.heap.length := by
  rw [RF_go t_clear_Field_reckon _ _ rfl, push_hp]
  generalize hH : X.heap = H at *
  have hHl : X.hl = H.length := by rw [← hH]; rfl
  have w1 := hO.at_.w1
  have w2 := hO.at_.h1
  simp (maxDischargeDepth := 8) only [go_sem, s_clear_Field_reckon, rect, hw, hH, Int.zero_add, wrap_small (x := W.h) (by omega) (by omega), wrap_small (x := W.h - 1) (by omega) (by omega)]
  rw [KL_keep _ _ _ (by simp (maxDischargeDepth := 8) only [go_sem])]
  simp (maxDischargeDepth := 8) only [go_sem]
  rw [show W.h - 1 = ((W.h.toNat : Nat) : Int) - 1 from by omega]
  refine KL_ind (R := fun z => ∃ (n : Int) (H' : Hp), fin [.t 4] X z = some (.int .i64 n, X.hp H') ∧ Own iF H' lv (W.clrs cl) ∧ Keep (slFp lv) H H' ∧ H'.length = H.length) (α := Nat × Nat × Hp × List Int) (fun q => q.1)
    (fun q => [(0, .ptr (.hp k 0) 0), (3, .ptr (.st X.dep 0) 0), (5, .int .i64 (q.2.1 : Int)), (6, .int .i64 ((q.1 : Int) - 1))])
    (fun q => (X.hp q.2.2.1).fr [.cells true [.int .i64 0, .int .i64 0, .int .i64 W.w, .int .i64 W.h]] none)
    (fun q => q.1 ≤ W.h.toNat ∧ q.2.1 + q.1 * W.w.toNat ≤ W.w.toNat * W.h.toNat ∧ Own iF q.2.2.1 lv q.2.2.2 ∧ q.2.2.2.length = W.w.toNat * W.h.toNat ∧ (∀ a b : Nat, a < W.w.toNat → b < W.h.toNat → q.1 ≤ b → q.2.2.2[b * W.w.toNat + a]? = some (W.clr cl a b)) ∧ Keep (slFp lv) H q.2.2.1 ∧ q.2.2.1.length = H.length) ?_ (W.h.toNat, 0, H, L) ⟨Nat.le_refl _, by dsimp only; rw [Nat.mul_comm]; omega, ho, hlen, fun a b _ hb h => absurd hb (by dsimp only at h; omega), Keep.refl _ _, rfl⟩
  rintro ⟨yn, n, Hk, L⟩ ⟨hy, hn, ow, hln, hkn', kk, hkl⟩ ih
  dsimp only at hy hn ow hln hkn' kk hkl ⊢
  simp (maxDischargeDepth := 8) only [go_sem, hw]
  by_cases hy0 : 0 < yn
  · obtain ⟨yk, rfl⟩ : ∃ i, yn = i + 1 := ⟨yn - 1, by omega⟩
    rw [show ((yk + 1 : Nat) : Int) - 1 = (yk : Int) from by omega]
    simp (maxDischargeDepth := 8) only [go_sem, show decide ((yk : Int) ≥ 0) = true from decide_eq_true (by omega), hw, Int.zero_add, wrap_small (x := W.w) (by omega) (by omega), wrap_small (x := W.w - 1) (by omega) (by omega)]
    rw [KL_keep _ _ _ (by simp (maxDischargeDepth := 8) only [go_sem])]
    simp (maxDischargeDepth := 8) only [go_sem]
    rw [show W.w - 1 = ((W.w.toNat : Nat) : Int) - 1 from by omega]
    have hyw : (yk + 1) * W.w.toNat = yk * W.w.toNat + W.w.toNat := by rw [Nat.add_mul, Nat.one_mul]
    have h48 : W.w.toNat * W.h.toNat ≤ 128 * 128 := Nat.mul_le_mul (by omega) (by omega)
    rw [hyw] at hn
    refine KL_ind (R := fun z => ∃ (n : Int) (H' : Hp), fin [.t 4] X z = some (.int .i64 n, X.hp H') ∧ Own iF H' lv (W.clrs cl) ∧ Keep (slFp lv) H H' ∧ H'.length = H.length) (α := Nat × Nat × Hp × List Int) (fun q => q.1)
      (fun q => [(0, .ptr (.hp k 0) 0), (3, .ptr (.st X.dep 0) 0), (5, .int .i64 (q.2.1 : Int)), (6, .int .i64 (yk : Int)), (7, .int .i64 ((q.1 : Int) - 1))])
      (fun q => (X.hp q.2.2.1).fr [.cells true [.int .i64 0, .int .i64 0, .int .i64 W.w, .int .i64 W.h]] none)
      (fun q => q.1 ≤ W.w.toNat ∧ q.2.1 + yk * W.w.toNat + q.1 ≤ W.w.toNat * W.h.toNat ∧ Own iF q.2.2.1 lv q.2.2.2 ∧ q.2.2.2.length = W.w.toNat * W.h.toNat ∧ W.knows cl q.2.2.2 yk q.1 ∧ Keep (slFp lv) H q.2.2.1 ∧ q.2.2.1.length = H.length) ?_ (W.w.toNat, n, Hk, L) ⟨Nat.le_refl _, by dsimp only; omega, ow, hln, fun a b ha hb h => hkn' a b ha hb (by dsimp only at h; omega), kk, hkl⟩
    clear hn ow hln hkn' kk hkl
    rintro ⟨xn, n, Hk, L⟩ ⟨hx, hn, ow, hln, hkw, kk, hkl⟩ ih'
    dsimp only at hx hn ow hln hkw kk hkl ⊢
    simp (maxDischargeDepth := 8) only [go_sem, hw]
    by_cases hx0 : 0 < xn
    · obtain ⟨xk, rfl⟩ : ∃ i, xn = i + 1 := ⟨xn - 1, by omega⟩
      rw [show ((xk + 1 : Nat) : Int) - 1 = (xk : Int) from by omega]
      have hO' := hO.keep kk hpn
      have hF : FieldAt (Hm Hk) k p W cl lv ep L := ⟨kk.get hk hkn, ow.lies iF_even, hln, w1, w2⟩
      have k1 := knows_at w1 w2 hkw (x := (xk : Int) + 1) (y := yk) (by omega) (by omega)
      have k2 := knows_at w1 w2 hkw (x := (xk : Int)) (y := (yk : Int) + 1) (by omega) (by omega)
      have k3 := knows_at w1 w2 hkw (x := (xk : Int) + 1) (y := (yk : Int) + 1) (by omega) (by omega)
      have hset := knows_set hln (by omega) (by omega) hkw
      have e6 : W.w.toNat * (yk + 1) ≤ W.w.toNat * W.h.toNat := Nat.mul_le_mul_left _ (by omega)
      rw [Nat.mul_add, Nat.mul_comm, Nat.mul_one] at e6
      have e5 : (yk : Int) * W.w = ((yk * W.w.toNat : Nat) : Int) := by rw [Int.natCast_mul, Int.toNat_of_nonneg (show 0 ≤ W.w by omega)]
      have c1 := clr_in W cl ((xk : Int) + 1) yk
      have c2 := clr_in W cl xk ((yk : Int) + 1)
      have c3 := clr_in W cl ((xk : Int) + 1) ((yk : Int) + 1)
      have e1 := mnI_eqF (W.clr cl ((xk : Int) + 1) yk) (W.clr cl xk ((yk : Int) + 1))
      have e2 := mnI_eqF (mnI (W.clr cl ((xk : Int) + 1) yk) (W.clr cl xk ((yk : Int) + 1))) (W.clr cl ((xk : Int) + 1) ((yk : Int) + 1))
      have e3 := mnI_eqF (mnI (mnI (W.clr cl ((xk : Int) + 1) yk) (W.clr cl xk ((yk : Int) + 1))) (W.clr cl ((xk : Int) + 1) ((yk : Int) + 1))) 3
      have hidx : ((yk : Int) * W.w + xk).toNat = yk * W.w.toNat + xk := by omega
      have hlt : yk * W.w.toNat + xk < L.length := by omega
      obtain ⟨c, hel'⟩ : ∃ c, L[yk * W.w.toNat + xk]? = some c := ⟨_, List.getElem?_eq_getElem hlt⟩
      have hel : L[((yk : Int) * W.w + xk).toNat]? = some c := by rw [hidx]; exact hel'
      have hst := clr_step w1 w2 cl (xk : Int) (yk : Int)
      simp (maxDischargeDepth := 8) only [go_sem, show decide ((xk : Int) ≥ 0) = true from decide_eq_true (by omega), hw, r_clear_tile hF hO'.at_ hg]
      cases hs : W.stands cl 1 (xk : Int) (yk : Int) with
      | false =>
        rw [hs] at hst
        have hst : W.clr cl xk yk = 0 := hst
        simp (maxDischargeDepth := 8) only [go_sem, hw, hF.ld, fieldC, wrap_small (x := (yk : Int) * W.w) (by omega) (by omega), wrap_small (x := (yk : Int) * W.w + xk) (by omega) (by omega), LiesD.iaddrI hF.ll (i := (yk : Int) * W.w + xk) (by omega) (by omega), hF.ll.loadI hel]
        by_cases hc : c = (0 : Int)
        · have hsame : L.set (yk * W.w.toNat + xk) (W.clr cl xk yk) = L := by
            rw [hst, ← hc]
            exact set_self hel'
          rw [hsame] at hset
          simp (maxDischargeDepth := 8) only [go_sem, hw, show (c != (0 : Int)) = false from by simpa using hc, wrap_small (x := (xk : Int) - 1) (by omega) (by omega)]
          rw [KL_keep _ _ _ (by simp (maxDischargeDepth := 8) only [go_sem])]
          simp (maxDischargeDepth := 8) only [go_sem]
          exact ih' (xk, n, Hk, L) ⟨by dsimp only; omega, by dsimp only; omega, ow, hln, hset, kk, hkl⟩ (by dsimp only; omega)
        · obtain ⟨H2, hst1, o1, k1', hl1⟩ := storeI ow (i := yk * W.w.toNat + xk) (by omega) X hm (0 : Int)
          rw [← hst] at o1
          simp (maxDischargeDepth := 8) only [go_sem, hw, hF.ld, fieldC, show (c != (0 : Int)) = true from by simpa using hc, wrap_small (x := (yk : Int) * W.w) (by omega) (by omega), wrap_small (x := (yk : Int) * W.w + xk) (by omega) (by omega), LiesD.iaddrI hF.ll (i := (yk : Int) * W.w + xk) (by omega) (by omega), hidx, hst1, wrap_small (x := (xk : Int) - 1) (by omega) (by omega), wrap_succ (show n ≤ 4611686018427387903 by omega)]
          rw [KL_keep _ _ _ (by simp (maxDischargeDepth := 8) only [go_sem])]
          simp (maxDischargeDepth := 8) only [go_sem]
          exact ih' (xk, n + 1, H2, L.set (yk * W.w.toNat + xk) (W.clr cl xk yk)) ⟨by dsimp only; omega, by dsimp only; omega, o1, by dsimp only; rw [List.length_set]; exact hln, hset, kk.trans k1', by dsimp only; omega⟩ (by dsimp only; omega)
      | true =>
        rw [hs, if_pos rfl] at hst
        simp (maxDischargeDepth := 8) only [go_sem, hw, hF.ld, fieldC, r_clear_At hF, wrap_small (x := (xk : Int) + 1) (by omega) (by omega), wrap_small (x := (yk : Int) + 1) (by omega) (by omega), k1, k2, k3, wrap_small (x := (1 + mnI (mnI (mnI (W.clr cl ((xk : Int) + 1) yk) (W.clr cl xk ((yk : Int) + 1))) (W.clr cl ((xk : Int) + 1) ((yk : Int) + 1))) 3)) (by omega) (by omega), wrap_small (x := (yk : Int) * W.w) (by omega) (by omega), wrap_small (x := (yk : Int) * W.w + xk) (by omega) (by omega), LiesD.iaddrI hF.ll (i := (yk : Int) * W.w + xk) (by omega) (by omega), hF.ll.loadI hel]
        by_cases hc : c = (1 + mnI (mnI (mnI (W.clr cl ((xk : Int) + 1) yk) (W.clr cl xk ((yk : Int) + 1))) (W.clr cl ((xk : Int) + 1) ((yk : Int) + 1))) 3)
        · have hsame : L.set (yk * W.w.toNat + xk) (W.clr cl xk yk) = L := by
            rw [hst, ← hc]
            exact set_self hel'
          rw [hsame] at hset
          simp (maxDischargeDepth := 8) only [go_sem, hw, show (c != (1 + mnI (mnI (mnI (W.clr cl ((xk : Int) + 1) yk) (W.clr cl xk ((yk : Int) + 1))) (W.clr cl ((xk : Int) + 1) ((yk : Int) + 1))) 3)) = false from by simpa using hc, wrap_small (x := (xk : Int) - 1) (by omega) (by omega)]
          rw [KL_keep _ _ _ (by simp (maxDischargeDepth := 8) only [go_sem])]
          simp (maxDischargeDepth := 8) only [go_sem]
          exact ih' (xk, n, Hk, L) ⟨by dsimp only; omega, by dsimp only; omega, ow, hln, hset, kk, hkl⟩ (by dsimp only; omega)
        · obtain ⟨H2, hst1, o1, k1', hl1⟩ := storeI ow (i := yk * W.w.toNat + xk) (by omega) X hm (1 + mnI (mnI (mnI (W.clr cl ((xk : Int) + 1) yk) (W.clr cl xk ((yk : Int) + 1))) (W.clr cl ((xk : Int) + 1) ((yk : Int) + 1))) 3)
          rw [← hst] at o1
          simp (maxDischargeDepth := 8) only [go_sem, hw, hF.ld, fieldC, show (c != (1 + mnI (mnI (mnI (W.clr cl ((xk : Int) + 1) yk) (W.clr cl xk ((yk : Int) + 1))) (W.clr cl ((xk : Int) + 1) ((yk : Int) + 1))) 3)) = true from by simpa using hc, wrap_small (x := (yk : Int) * W.w) (by omega) (by omega), wrap_small (x := (yk : Int) * W.w + xk) (by omega) (by omega), LiesD.iaddrI hF.ll (i := (yk : Int) * W.w + xk) (by omega) (by omega), hidx, hst1, wrap_small (x := (xk : Int) - 1) (by omega) (by omega), wrap_succ (show n ≤ 4611686018427387903 by omega)]
          rw [KL_keep _ _ _ (by simp (maxDischargeDepth := 8) only [go_sem])]
          simp (maxDischargeDepth := 8) only [go_sem]
          exact ih' (xk, n + 1, H2, L.set (yk * W.w.toNat + xk) (W.clr cl xk yk)) ⟨by dsimp only; omega, by dsimp only; omega, o1, by dsimp only; rw [List.length_set]; exact hln, hset, kk.trans k1', by dsimp only; omega⟩ (by dsimp only; omega)
    · obtain rfl : xn = 0 := by omega
      simp (maxDischargeDepth := 8) only [go_sem, show decide (((0 : Nat) : Int) - 1 ≥ 0) = false from rfl, show decide ((-1 : Int) ≥ 0) = false from rfl, hw, wrap_small (x := (yk : Int) - 1) (by omega) (by omega)]
      rw [KL_keep _ _ _ (by simp (maxDischargeDepth := 8) only [go_sem])]
      simp (maxDischargeDepth := 8) only [go_sem]
      exact ih (yk, n, Hk, L) ⟨by dsimp only; omega, by dsimp only; omega, ow, hln, fun a b ha hb h => hkw a b ha hb (by dsimp only at h; omega), kk, hkl⟩ (by dsimp only; omega)
  · obtain rfl : yn = 0 := by omega
    simp (maxDischargeDepth := 8) only [go_sem, show decide (((0 : Nat) : Int) - 1 ≥ 0) = false from rfl, show decide ((-1 : Int) ≥ 0) = false from rfl, hw]
    rw [knows_all w1.1 hln (fun a b ha hb => hkn' a b ha hb (Nat.zero_le _))] at ow
    rw [List.take_of_length_le (by omega)]
    exact ⟨_, _, rfl, ow, kk, hkl⟩
theorem reckon_of {X : Mem} {k : Nat} {p : WP} {W : Wd} {cl : Int} {lv : SV} {ep : Int} {L : List Int} {z : Option (SV × Mem)} (hz : RF tb f_clear_Field_reckon [.ptr (.hp k 0) 0, rect 0 0 W.w W.h] X = z) (hk : hget X.heap k 0 = some (.cells true (fieldC p W cl lv ep))) (ho : Own iF X.heap lv L) (hlen : L.length = W.w.toNat * W.h.toNat) (hkn : k ∉ slFp lv) (hpn : ∀ i ∈ p.fp, i ∉ slFp lv) (hm : ∀ i ∈ slFp lv, X.hb ≤ i) (hO : WorldOwn X.heap p W) (hg : W.Good) (hw : X.Wf) :
    ∃ (n : Int) (H' : Hp), z = some (.int .i64 n, X.hp H') ∧ Own iF H' lv (W.clrs cl) ∧ Keep (slFp lv) X.heap H' ∧ H'.length = X.heap.length := by
  rw [← hz]
  exact r_clear_reckon hk ho hlen hkn hpn hm hO hg hw
theorem may_all {W : Wd} (w1 : 1 ≤ W.w ∧ W.w ≤ 128) (w2 : 1 ≤ W.h ∧ W.h ≤ 128) : mayB 0 0 W.w W.h = true := by
  rw [mayB, last_eq (by omega) (by omega), last_eq (by omega) (by omega)]
  simp only [nearC, nearP, sideB, Bool.and_eq_true, decide_eq_true_eq]
  omega
theorem shut_hap_reopen (Z : Mem) (L : Hp) : (Z.shut.hap L).reopen Z = Z.hap L := id rfl
theorem r_clear_New {X : Mem} {p : WP} {W : Wd} (hO : WorldOwn X.heap p W) (hg : W.Good) (hw : X.Wf) (hhb : X.hb ≤ X.hl) (cl : Int) (hc : 0 ≤ cl ∧ cl < 4) :
    ∃ k lv H', RF tb f_clear_New [.ptr (.hp p.k 0) 0, .int .i64 cl] X = some (.tup [.ptr (.hp k 0) 0, .int .i64 0], X.hp H') ∧ FieldAt (Hm H') k p W cl lv W.dirty.length (W.clrs cl) ∧ Keep [] X.heap H' := by
  rw [RF_go t_clear_New _ _ rfl, push_hp]
  generalize hH : X.heap = H at *
  have hHl : X.hl = H.length := by rw [← hH]; rfl
  have w1 := hO.at_.w1
  have w2 := hO.at_.h1
  have e4 : W.w.toNat * W.h.toNat ≤ 128 * 128 := Nat.mul_le_mul (by omega) (by omega)
  have e5 : W.w * W.h = ((W.w.toNat * W.h.toNat : Nat) : Int) := by rw [Int.natCast_mul, Int.toNat_of_nonneg (show 0 ≤ W.w by omega), Int.toNat_of_nonneg (show 0 ≤ W.h by omega)]
  have c1 : 0 ≤ W.w * W.h := by omega
  have c2 : W.w * W.h < 9223372036854775808 := by omega
  have c3 : 8 * (W.w * W.h) ≤ (two48 : Int) := by simp only [two48]; omega
  obtain ⟨H1, hH1⟩ : ∃ H1, H ++ [(0, SBk.cells true (List.replicate (W.w * W.h).toNat [SV.int IntKind.i64 0]).flatten)] = H1 := ⟨_, rfl⟩
  have own1 : Own iF H1 (.sl (.hp H.length 0) 0 (W.w * W.h).toNat (some (W.w * W.h).toNat) 1) (List.replicate (W.w * W.h).toNat 0) := by rw [← hH1]; exact mkslV_own iF_even H 0 _
  have f1 : ∀ i ∈ slFp (.sl (.hp H.length 0) 0 (W.w * W.h).toNat (some (W.w * W.h).toNat) 1), i = H.length := by simp [slFp]
  have k1 : Keep [] H H1 := by rw [← hH1]; exact Keep.app _ _ _
  have l1 : H1.length = H.length + 1 := by rw [← hH1, List.length_append]; rfl
  simp (maxDischargeDepth := 8) only [go_sem, s_clear_New, shut_hap_reopen, Int.le_refl, hH1, c1, c2, c3, hw, hH, r_grid_World_All hO.at_, rect, r_cell_May, may_all w1 w2, show decide (cl < 0) = false from decide_eq_false (by omega), show decide (cl ≥ 4) = false from decide_eq_false (by omega), r_grid_World_Epoch hO.at_, wrap_small (x := W.w * W.h) (by omega) (by omega)]
  have s1 := own1.isSl iF_even
  generalize SV.sl (.hp H.length 0) 0 (W.w * W.h).toNat (some (W.w * W.h).toNat) 1 = lv at *
  obtain ⟨H2, hH2⟩ : ∃ H2, H1 ++ [(0, SBk.cells true [.ptr (.hp p.k 0) 0, .int .i64 cl, .int .i64 0, .int .i64 0, .int .i64 W.w, .int .i64 W.h, lv, .int .i64 (W.dirty.length : Int)])] = H2 := ⟨_, rfl⟩
  have k2 : Keep [] H1 H2 := by rw [← hH2]; exact Keep.app _ _ _
  have l2 : H2.length = H1.length + 1 := by rw [← hH2, List.length_append]; rfl
  have g2 : hget H2 H1.length 0 = some (.cells true (fieldC p W cl lv W.dirty.length)) := by rw [← hH2]; exact hget_new0 0 _
  rw [hH2]
  generalize hz : RF tb f_clear_Field_reckon _ _ = z
  obtain ⟨n, H3, rfl, o3, k3, l3⟩ := reckon_of hz g2 (own1.keep k2 (by simp)) (by rw [List.length_replicate, e5]; rfl) (fun h => by have := f1 _ h; omega) (fun i hi h => by have := f1 _ h; have := hO.at_.lt i hi; omega) (fun i hi => by have := f1 i hi; show X.hb ≤ i; omega) ((hO.keep k1 (by simp)).keep k2 (by simp)) hg (by simp (maxDischargeDepth := 8) only [go_sem, hw])
  change Keep (slFp lv) H2 H3 at k3
  change H3.length = H2.length at l3
  simp (maxDischargeDepth := 8) only [go_sem, hw]
  rw [if_neg (by omega)]
  refine ⟨H1.length, lv, H3, rfl, ⟨k3.get g2 (fun h => by have := f1 _ h; omega), o3.lies iF_even, clrs_len W cl, w1, w2⟩, (k1.trans k2).trans' k3 (fun n hn hl => by have := f1 n hn; omega)⟩
theorem new_of {X : Mem} {p : WP} {W : Wd} {cl : Int} {z : Option (SV × Mem)} (hz : RF tb f_clear_New [.ptr (.hp p.k 0) 0, .int .i64 cl] X = z) (hO : WorldOwn X.heap p W) (hg : W.Good) (hw : X.Wf) (hhb : X.hb ≤ X.hl) (hc : 0 ≤ cl ∧ cl < 4) :
    ∃ k lv H', z = some (.tup [.ptr (.hp k 0) 0, .int .i64 0], X.hp H') ∧ FieldAt (Hm H') k p W cl lv W.dirty.length (W.clrs cl) ∧ Keep [] X.heap H' := by
  rw [← hz]
  exact r_clear_New hO hg hw hhb cl hc
/-- Who stands for whom: rt the last one of a course, dp how far it is at most. -/
structure Well (up : List Nat) (rt dp : Nat → Nat) : Prop where
  go : ∀ i j, up[i]? = some j → j < up.length ∧ ((j = i ∧ rt i = i) ∨ (j ≠ i ∧ rt j = rt i ∧ dp j < dp i))
  top : ∀ i, i < up.length → rt i < up.length ∧ up[rt i]? = some (rt i)
theorem well_new (n : Nat) : Well (List.range n) (fun i => i) (fun _ => 0) := by
  refine ⟨fun i j h => ?_, fun i h => ?_⟩
  · have hl : i < (List.range n).length := by
      rcases Nat.lt_or_ge i (List.range n).length with h1 | h1
      · exact h1
      · rw [List.getElem?_eq_none h1] at h; cases h
    rw [List.length_range] at hl
    rw [List.getElem?_range hl] at h
    cases h
    exact ⟨by rw [List.length_range]; exact hl, .inl ⟨rfl, rfl⟩⟩
  · rw [List.length_range] at h
    exact ⟨by rw [List.length_range]; exact h, List.getElem?_range h⟩
theorem well_rr {up : List Nat} {rt dp : Nat → Nat} (h : Well up rt dp) {i : Nat} (hi : i < up.length) : rt (rt i) = rt i := by
  have h1 := h.top i hi
  rcases (h.go _ _ h1.2).2 with ⟨_, h2⟩ | ⟨h2, _⟩
  · exact h2
  · exact absurd rfl h2
/-- Halving a course. -/
theorem well_half {up : List Nat} {rt dp : Nat → Nat} (h : Well up rt dp) {i j g : Nat} (hi : up[i]? = some j) (hj : up[j]? = some g) : Well (up.set i g) rt dp := by
  have h1 := h.go i j hi
  have h2 := h.go j g hj
  have hil : i < up.length := by
    rcases Nat.lt_or_ge i up.length with h3 | h3
    · exact h3
    · rw [List.getElem?_eq_none h3] at hi; cases hi
  refine ⟨fun a b hab => ?_, fun a ha => ?_⟩
  · rw [List.length_set]
    rw [List.getElem?_set] at hab
    by_cases e : i = a
    · subst e
      rw [if_pos rfl, if_pos hil] at hab
      cases hab
      refine ⟨h2.1, ?_⟩
      rcases h1.2 with ⟨e1, e2⟩ | ⟨e1, e2, e3⟩
      · subst e1
        rw [hi] at hj; cases hj
        exact .inl ⟨rfl, e2⟩
      · rcases h2.2 with ⟨g1, g2⟩ | ⟨g1, g2, g3⟩
        · subst g1
          exact .inr ⟨e1, e2, e3⟩
        · refine .inr ⟨fun e => ?_, g2.trans e2, by omega⟩
          subst e; omega
    · rw [if_neg e] at hab
      exact h.go a b hab
  · rw [List.length_set] at ha ⊢
    have h3 := h.top a ha
    refine ⟨h3.1, ?_⟩
    rw [List.getElem?_set]
    by_cases e : i = rt a
    · rw [if_pos e, if_pos hil]
      rw [← e] at h3
      rw [hi] at h3
      have : j = i := by have := h3.2; exact Option.some.inj this
      subst this
      rw [hi] at hj; cases hj
      rw [e]
    · rw [if_neg e]
      exact h3.2
/-- Joining two roots. -/
theorem well_join {up : List Nat} {rt dp : Nat → Nat} (h : Well up rt dp) {a b : Nat} (ha : a < up.length) (hb : b < up.length) :
    ∃ dp', Well (up.set (rt a) (rt b)) (fun x => if rt x = rt a then rt b else rt x) dp' := by
  have ta := h.top a ha
  have tb := h.top b hb
  have ra := well_rr h ha
  have rb := well_rr h hb
  by_cases he : rt a = rt b
  · refine ⟨dp, ?_⟩
    have e1 : up.set (rt a) (rt b) = up := by
      apply List.ext_getElem?
      intro n
      rw [List.getElem?_set]
      split
      · rename_i h5
        subst h5
        rw [if_pos ta.1, ta.2, he]
      · rfl
    have e2 : (fun x => if rt x = rt a then rt b else rt x) = rt := by
      funext x
      split
      · rename_i h5; rw [h5, he]
      · rfl
    rw [e1, e2]
    exact h
  · refine ⟨fun x => dp x + if rt x = rt a then 1 + dp (rt b) else 0, fun i j hij => ?_, fun i hi => ?_⟩
    · rw [List.length_set]
      rw [List.getElem?_set] at hij
      by_cases e : rt a = i
      · rw [if_pos e, if_pos ta.1] at hij
        cases hij
        subst e
        refine ⟨tb.1, .inr ⟨fun e => he e.symm, ?_, ?_⟩⟩
        · simp only [ra, rb, if_true]
          rw [if_neg (fun e => he e.symm)]
        · simp only [ra, rb, if_true]
          rw [if_neg (fun e => he e.symm)]
          omega
      · rw [if_neg e] at hij
        have h1 := h.go i j hij
        refine ⟨h1.1, ?_⟩
        rcases h1.2 with ⟨e1, e2⟩ | ⟨e1, e2, e3⟩
        · refine .inl ⟨e1, ?_⟩
          simp only [e2]
          rw [if_neg (fun e' => e e'.symm)]
        · refine .inr ⟨e1, by simp only [e2], ?_⟩
          simp only [e2]
          omega
    · rw [List.length_set] at hi ⊢
      have h1 := h.top i hi
      by_cases e : rt i = rt a
      · simp only [e, if_true]
        refine ⟨tb.1, ?_⟩
        rw [List.getElem?_set, if_neg he]
        exact tb.2
      · simp only [if_neg e]
        refine ⟨h1.1, ?_⟩
        rw [List.getElem?_set, if_neg (fun e' => e e'.symm)]
        exact h1.2
def natF : Fl Nat := ⟨1, fun n => [.int .i64 (n : Int)]⟩
theorem natF_even : natF.Even := ⟨fun _ => rfl⟩
theorem _root_.Go.Sh.LiesD.iaddrN {m : Mem} {v : SV} {l : List Nat} (h : LiesD natF m v l) {i : Nat} (hi : i < l.length) (k : IntKind) (m' : Mem) : iaddrV 1 v (.int k (i : Int)) m' = some (.ptr (.hp (slN v) (slW v)) (slO v + i), m') := by
  have := LiesD.iaddr h hi k m'
  rw [show natF.sz = 1 from rfl, Nat.mul_one] at this
  exact this
theorem _root_.Go.Sh.LiesD.loadN' {m : Mem} {v : SV} {l : List Nat} (h : LiesD natF m v l) {i a : Nat} (hi : l[i]? = some a) {X : Mem} (hX : HpSub m X) : X.load (.hp (slN v) (slW v)) (slO v + i) none = some (.int .i64 (a : Int)) := by
  have := LiesD.load1 natF_even (h.sub hX) hi (j := 0) (by decide)
  rw [show natF.sz = 1 from rfl, Nat.mul_one, Nat.add_zero] at this
  exact this
theorem storeN {H : Hp} {v : SV} {l : List Nat} (hv : Own natF H v l) {i : Nat} (hi : i < l.length) (X : Mem) (hm : ∀ i ∈ slFp v, X.hb ≤ i) (a : Nat) :
    ∃ H', (∀ f e, ((X.hp H).fr f e).store (.hp (slN v) (slW v)) (slO v + i) [.int .i64 (a : Int)] = some ((X.hp H').fr f e)) ∧ Own natF H' v (l.set i a) ∧ Keep (slFp v) H H' ∧ H'.length = H.length := by
  obtain ⟨H', h1, h2⟩ := store_own natF_even (by decide) (fun _ => rfl) (fun _ => rfl) hv hi X hm a
  refine ⟨H', fun f e => ?_, h2⟩
  have := h1 f e
  rw [show natF.sz = 1 from rfl, Nat.mul_one] at this
  exact this
theorem storeNY {H : Hp} {v : SV} {l : List Nat} (hv : Own natF H v l) {i : Nat} (hi : i < l.length) (B : Nat) (hm : ∀ i ∈ slFp v, B ≤ i) (a : Nat) :
    ∃ H', (∀ Y : Mem, Y.heap = H → Y.hb = B → Y.store (.hp (slN v) (slW v)) (slO v + i) [.int .i64 (a : Int)] = some (Y.hp H')) ∧ Own natF H' v (l.set i a) ∧ Keep (slFp v) H H' ∧ H'.length = H.length := by
  obtain ⟨H', h1, h2, h3, h4⟩ := store_ownY natF_even (by decide) (fun _ => rfl) (fun _ => rfl) hv hi a
  refine ⟨H', fun Y e1 e2 => ?_, h2, h3, h4⟩
  have := h1 Y e1 (by rw [e2]; exact hm)
  rw [show natF.sz = 1 from rfl, Nat.mul_one] at this
  exact this
theorem r_parts_rootU {H : Hp} {v : SV} {up : List Nat} {rt dp : Nat → Nat} (ho : Own natF H v up) (hW : Well up rt dp) (B : Nat) (hm : ∀ i ∈ slFp v, B ≤ i) {i : Nat} (hi : i < up.length) :
    ∃ H' up', (∀ Y : Mem, Y.heap = H → Y.hb = B → Y.Wf → RF tb f_parts_root [v, .int .i64 (i : Int)] Y = some (.int .i64 (rt i : Int), Y.hp H')) ∧ Own natF H' v up' ∧ Well up' rt dp ∧ up'.length = up.length ∧ Keep (slFp v) H H' ∧ H'.length = H.length := by
  have s1 := ho.isSl natF_even
  suffices hl : ∃ r : Hp × List Nat, (Own natF r.1 v r.2 ∧ Well r.2 rt dp ∧ r.2.length = up.length ∧ Keep (slFp v) H r.1 ∧ r.1.length = H.length) ∧ ∀ X : Mem, (X.heap = H ∧ X.hb = B ∧ X.Wf) → fin [.t 4] X (KL tb [KI.block 0, KI.kp [1], KI.seq ((SCode.region false [{ dst := some 25, op := SOp.mv (Opd.t 1), guard := none, quiet := false }, { dst := some 4, op := SOp.mv (Opd.t 25), guard := none, quiet := false }]).seq SCode.ret)] 0 (some [0, 1]) s_parts_root_p3 [(0, v), (1, .int .i64 (i : Int))] ((X.hp H).fr [] none)) = some (.int .i64 (rt i : Int), X.hp r.1) by
    obtain ⟨r, hr, hX⟩ := hl
    refine ⟨r.1, r.2, fun X hH hhb hw => ?_, hr⟩
    rw [RF_go t_parts_root _ _ rfl, push_hp, hH]
    simp (maxDischargeDepth := 8) only [go_sem, s_parts_root, hw, hH, s1.l]
    rw [KL_keep _ _ _ (by simp (maxDischargeDepth := 8) only [go_sem, s1.l])]
    simp (maxDischargeDepth := 8) only [go_sem]
    exact hX X ⟨hH, hhb, hw⟩
  refine KL_indX (F := tb) (K := [KI.block 0, KI.kp [1], KI.seq ((SCode.region false [{ dst := some 25, op := SOp.mv (Opd.t 1), guard := none, quiet := false }, { dst := some 4, op := SOp.mv (Opd.t 25), guard := none, quiet := false }]).seq SCode.ret)]) (k := 0) (ks := some [0, 1]) (c := s_parts_root_p3) (cond := fun X => X.heap = H ∧ X.hb = B ∧ X.Wf) (G := fun X z (r : Hp × List Nat) => fin [.t 4] X z = some (.int .i64 (rt i : Int), X.hp r.1)) (Q := fun r => Own natF r.1 v r.2 ∧ Well r.2 rt dp ∧ r.2.length = up.length ∧ Keep (slFp v) H r.1 ∧ r.1.length = H.length) (α := Nat × List Nat × Hp) (fun q => dp q.1)
    (fun q => [(0, v), (1, .int .i64 (q.1 : Int))]) (fun X q => (X.hp q.2.2).fr [] none)
    (fun q => q.1 < up.length ∧ rt q.1 = rt i ∧ Own natF q.2.2 v q.2.1 ∧ Well q.2.1 rt dp ∧ q.2.1.length = up.length ∧ Keep (slFp v) H q.2.2 ∧ q.2.2.length = H.length) ?_ (i, up, H) ⟨hi, rfl, ho, hW, rfl, Keep.refl _ _, rfl⟩
  clear hW ho
  rintro ⟨c, uc, Hc⟩ ⟨hc, hr, ow, hW, hlen, kk, hl⟩ ih
  dsimp only at hc hr ow hW hlen kk hl ⊢
  have ll := ow.lies natF_even
  obtain ⟨j, hj⟩ : ∃ j, uc[c]? = some j := ⟨_, List.getElem?_eq_getElem (by omega)⟩
  have hg1 := hW.go c j hj
  by_cases he : j = c
  · subst he
    have hrj : rt j = j := by
      rcases hg1.2 with h | h
      · exact h.2
      · exact absurd rfl h.1
    refine ⟨(Hc, uc), ⟨ow, hW, hlen, kk, hl⟩, ?_⟩
    rintro X ⟨hH, hhb, hw⟩
    have hHl : X.hl = H.length := by rw [← hH]; rfl
    simp (maxDischargeDepth := 8) only [go_sem, hw, s1.l, ll.iaddrN (show j < uc.length by omega), ll.loadN' hj, show ((j : Int) != (j : Int)) = false from by simp]
    rw [List.take_of_length_le (by omega), ← hr, hrj]
  · obtain ⟨g, hg⟩ : ∃ g, uc[j]? = some g := ⟨_, List.getElem?_eq_getElem hg1.1⟩
    obtain ⟨H2, st, o2, k2, l2⟩ := storeNY ow (i := c) (by omega) B hm g
    have hW2 := well_half hW hj hg
    have ll2 := o2.lies natF_even
    have hgc : (uc.set c g)[c]? = some g := by rw [List.getElem?_set, if_pos rfl, if_pos (by omega)]
    have hg2 := hW.go j g hg
    obtain ⟨r, hQ, hX⟩ := ih (g, uc.set c g, H2) ⟨by dsimp only; omega, by
      dsimp only
      rcases hg1.2 with h | h
      · exact absurd h.1 he
      · rcases hg2.2 with h' | h'
        · rw [h'.1, h.2.1, hr]
        · rw [h'.2.1, h.2.1, hr], o2, hW2, by dsimp only; rw [List.length_set]; exact hlen, kk.trans k2, by dsimp only; omega⟩ (by
      dsimp only
      rcases hg1.2 with h | h
      · exact absurd h.1 he
      · rcases hg2.2 with h' | h'
        · rw [h'.1]; exact h.2.2
        · omega)
    refine ⟨r, hQ, ?_⟩
    rintro X ⟨hH, hhb, hw⟩
    have hst : ∀ f e, ((X.hp Hc).fr f e).store (.hp (slN v) (slW v)) (slO v + c) [.int .i64 (g : Int)] = some ((X.hp H2).fr f e) := fun f e => st _ rfl hhb
    simp (maxDischargeDepth := 8) only [go_sem, hw, s1.l, show ((j : Int) != (c : Int)) = true from by simpa using (fun h => he (by omega)), ll.iaddrN (show c < uc.length by omega), ll.loadN' hj, ll.iaddrN hg1.1, ll.loadN' hg, hst, ll2.iaddrN (show c < (uc.set c g).length by rw [List.length_set]; omega), ll2.loadN' hgc]
    rw [KL_keep _ _ _ (by simp (maxDischargeDepth := 8) only [go_sem, s1.l])]
    simp (maxDischargeDepth := 8) only [go_sem]
    exact hX X ⟨hH, hhb, hw⟩
section
variable (n : Nat) (st : Nat → Bool) (R : Nat → Nat → Prop)
/-- The first of its part. -/
def Fst (i : Nat) : Prop := st i = true ∧ ∀ j, j < i → st j = true → ¬ R j i
/-- How many firsts there are below. -/
noncomputable def cntF : Nat → Nat
  | 0 => 0
  | i + 1 => open Classical in cntF i + if Fst st R i then 1 else 0
/-- Numbers in the order of the firsts. -/
def Canon (f : Nat → Nat) : Prop := ∀ i, i < n → (st i = false → f i = 0) ∧ (st i = true → (∃ j, j < i ∧ st j = true ∧ R j i ∧ f i = f j) ∨ ((∀ j, j < i → st j = true → ¬ R j i) ∧ f i = cntF st R i + 1))
end
section
variable {n : Nat} {st : Nat → Bool} {R : Nat → Nat → Prop}
theorem cntF_fst {i : Nat} (h : Fst st R i) : cntF st R (i + 1) = cntF st R i + 1 := by simp only [cntF]; rw [if_pos h]
theorem cntF_no {i : Nat} (h : ¬ Fst st R i) : cntF st R (i + 1) = cntF st R i := by simp only [cntF]; rw [if_neg h]; rfl
/-- What is linked by some links. -/
inductive Lnk (E : Nat → Nat → Prop) : Nat → Nat → Prop
  | refl (a : Nat) : Lnk E a a
  | step {a b c : Nat} (h : Lnk E a b) (e : E b c ∨ E c b) : Lnk E a c
theorem Lnk.trans {E : Nat → Nat → Prop} {a b c : Nat} (h : Lnk E a b) (k : Lnk E b c) : Lnk E a c := by
  induction k with
  | refl => exact h
  | step _ e ih => exact .step ih e
theorem Lnk.symm {E : Nat → Nat → Prop} {a b : Nat} (h : Lnk E a b) : Lnk E b a := by
  induction h with
  | refl => exact .refl _
  | step _ e ih => exact Lnk.trans (.step (.refl _) e.symm) ih
theorem Lnk.mono {E F : Nat → Nat → Prop} (hEF : ∀ a b, E a b → Lnk F a b) {a b : Nat} (h : Lnk E a b) : Lnk F a b := by
  induction h with
  | refl => exact .refl _
  | step _ e ih =>
    rcases e with e | e
    · exact ih.trans (hEF _ _ e)
    · exact ih.trans (hEF _ _ e).symm
/-- Roots tell what is linked: one link more. -/
theorem lnk_join {E : Nat → Nat → Prop} {rt : Nat → Nat} {m : Nat} (h : ∀ x y, x < m → y < m → (rt x = rt y ↔ Lnk E x y)) {a b : Nat} (ha : a < m) (hb : b < m) (hE : ∀ x y, E x y → x < m ∧ y < m) :
    ∀ x y, x < m → y < m → ((if rt x = rt a then rt b else rt x) = (if rt y = rt a then rt b else rt y) ↔ Lnk (fun p q => E p q ∨ (p = a ∧ q = b)) x y) := by
  have up : ∀ {x y}, Lnk E x y → Lnk (fun p q => E p q ∨ (p = a ∧ q = b)) x y := fun h => Lnk.mono (fun _ _ e => .step (.refl _) (.inl (.inl e))) h
  have ab : Lnk (fun p q => E p q ∨ (p = a ∧ q = b)) a b := .step (.refl _) (.inl (.inr ⟨rfl, rfl⟩))
  intro x y hx hy
  constructor
  · intro e
    by_cases h1 : rt x = rt a <;> by_cases h2 : rt y = rt a
    · exact (up ((h x a hx ha).1 h1)).trans (up ((h y a hy ha).1 h2)).symm
    · rw [if_pos h1, if_neg h2] at e
      exact ((up ((h x a hx ha).1 h1)).trans ab).trans (up ((h b y hb hy).1 e))
    · rw [if_neg h1, if_pos h2] at e
      exact ((up ((h x b hx hb).1 e)).trans ab.symm).trans (up ((h y a hy ha).1 h2)).symm
    · rw [if_neg h1, if_neg h2] at e
      exact up ((h x y hx hy).1 e)
  · intro hl
    have key : ∀ {u w}, Lnk (fun p q => E p q ∨ (p = a ∧ q = b)) u w → u < m → w < m ∧ (if rt u = rt a then rt b else rt u) = (if rt w = rt a then rt b else rt w) := by
      intro u w hl hu
      induction hl with
      | refl => exact ⟨hu, rfl⟩
      | @step p q _ e ih =>
        obtain ⟨i1, i2⟩ := ih
        have one : ∀ p q, (E p q ∨ (p = a ∧ q = b)) → p < m → q < m → (if rt p = rt a then rt b else rt p) = (if rt q = rt a then rt b else rt q) := by
          rintro p q (e | ⟨rfl, rfl⟩) hp hq
          · rw [(h p q hp hq).2 (.step (.refl _) (.inl e))]
          · rw [if_pos rfl]
            by_cases h1 : rt q = rt p
            · rw [if_pos h1]
            · rw [if_neg h1]
        rcases e with e | e
        · have hq : q < m := by
            rcases e with e | ⟨_, rfl⟩
            · exact (hE _ _ e).2
            · exact hb
          exact ⟨hq, i2.trans (one _ _ e i1 hq)⟩
        · have hq : q < m := by
            rcases e with e | ⟨rfl, _⟩
            · exact (hE _ _ e).1
            · exact ha
          exact ⟨hq, i2.trans (one _ _ e hq i1).symm⟩
    exact (key hl hx).2
end
abbrev paC (p : WP) (W : Wd) (cl sz : Int) (kf : Nat) (lv fv zv : SV) (ep : Int) : List SV := [.ptr (.hp p.k 0) 0, .int .i64 cl, .int .i64 sz, .int .i64 0, .int .i64 0, .int .i64 W.w, .int .i64 W.h, .ptr (.hp kf 0) 0, lv, fv, zv, .int .i64 ep]
theorem r_parts_stands {m : Mem} {k kf : Nat} {p : WP} {W : Wd} {cl sz : Int} {flv lv fv zv : SV} {fep ep : Int} (hP : m.get (.hp k 0) = some (.cells true (paC p W cl sz kf lv fv zv ep))) (hF : FieldAt m kf p W cl flv fep (W.clrs cl)) (hs : 1 ≤ sz ∧ sz ≤ 4) {X : Mem} (hX : HpSub m X) (hw : X.Wf) (x y : Int) : RF tb f_parts_Parts_stands [.ptr (.hp k 0) 0, cellV x y] X = some (.bool (W.stands cl sz x y), X) := by
  have hld : ∀ {Y : Mem}, HpSub m Y → ∀ off n, Y.load (.hp k 0) off n = partv (paC p W cl sz kf lv fv zv ep) off n := fun hY off n => by rw [load_get, hY _ _ _ hP]
  rw [RF_go t_parts_Parts_stands _ _ rfl]
  simp (maxDischargeDepth := 8) only [go_sem, s_parts_Parts_stands, cellV, hw, hX, hld, paC, r_clear_At hF, clrs_get hF.w1 hF.h1]
  have : W.stands cl sz x y = decide (W.clr cl x y ≥ sz) := by
    rw [Bool.eq_iff_iff, clr_iff hs.1 hs.2]
    simp
  rw [this]
def jn (rt : Nat → Nat) (a b : Nat) : Nat → Nat := fun x => if rt x = rt a then rt b else rt x
/-- Two roots found, and joined. -/
theorem join1 {H : Hp} {v : SV} {up : List Nat} {rt dp : Nat → Nat} (ho : Own natF H v up) (hW : Well up rt dp) (B : Nat) (hm : ∀ i ∈ slFp v, B ≤ i) {i j : Nat} (hi : i < up.length) (hj : j < up.length) :
    ∃ Ha Hb H' up2 up' dp', (∀ Y : Mem, Y.heap = H → Y.hb = B → Y.Wf → RF tb f_parts_root [v, .int .i64 (i : Int)] Y = some (.int .i64 (rt i : Int), Y.hp Ha)) ∧ (∀ Y : Mem, Y.heap = Ha → Y.hb = B → Y.Wf → RF tb f_parts_root [v, .int .i64 (j : Int)] Y = some (.int .i64 (rt j : Int), Y.hp Hb)) ∧
      LiesD natF (Hm Hb) v up2 ∧ rt i < up2.length ∧ (∀ Y : Mem, Y.heap = Hb → Y.hb = B → Y.store (.hp (slN v) (slW v)) (slO v + rt i) [.int .i64 (rt j : Int)] = some (Y.hp H')) ∧ Own natF H' v up' ∧ Well up' (jn rt i j) dp' ∧ up'.length = up.length ∧ Keep (slFp v) H Ha ∧ Keep (slFp v) H Hb ∧ Keep (slFp v) H H' ∧ H'.length = H.length := by
  obtain ⟨Ha, ua, r1, o1, W1, l1, k1, e1⟩ := r_parts_rootU ho hW B hm hi
  obtain ⟨Hb, ub, r2, o2, W2, l2, k2, e2⟩ := r_parts_rootU o1 W1 B hm (i := j) (by omega)
  have ht := (W2.top i (by omega)).1
  obtain ⟨H', st, o3, k3, e3⟩ := storeNY o2 ht B hm (rt j)
  obtain ⟨dp', W3⟩ := well_join W2 (a := i) (b := j) (by omega) (by omega)
  exact ⟨Ha, Hb, H', ub, _, dp', r1, r2, o2.lies natF_even, ht, st, o3, W3, by rw [List.length_set]; omega, k1, k1.trans k2, (k1.trans k2).trans k3, by omega⟩
abbrev laM (X : Mem) (k : Nat) (uv : SV) (n n0 : Nat) (st : LoopState) (H : Hp) : Mem :=
  (X.hp H).fr [.cells true [.ptr (.hp k 0) 0], .cells true [uv],
    .loop ⟨st, none, [(1, .ptr (.st X.dep 0) 0), (2, .int .i64 (n : Int)), (3, .ptr (.st X.dep 1) 0), (38, .fn f_cell_Cells_1 [] [.ptr (.hp n0 0) 0])], [39], s_parts_Parts_label_p7, s_parts_Parts_label_p15⟩] none
theorem stands_bx7 {W : Wd} {cl sz a b : Int} (h : W.stands cl sz a b = true) : 0 ≤ a ∧ a < W.w ∧ 0 ≤ b ∧ b < W.h := by
  have h1 := (stands_in h).2.2.2.1
  unfold Wd.has at h1
  have h2 := has_iff.1 h1
  omega
/-- Who stands for whom behind one cell more. -/
def rtN (W : Wd) (cl sz : Int) (a b : Int) (i w : Nat) (rt : Nat → Nat) : Nat → Nat :=
  if W.stands cl sz a b then
    (if W.stands cl sz a (b - 1) then jn (if W.stands cl sz (a - 1) b then jn rt i (i - 1) else rt) i (i - w) else if W.stands cl sz (a - 1) b then jn rt i (i - 1) else rt)
  else rt
theorem label_yield {X : Mem} (hw : X.Wf) {k kf : Nat} {p : WP} {W : Wd} {cl sz : Int} {flv lv fv zv : SV} {fep ep : Int} {uv : SV} {Hk : Hp} (hP : hget Hk k 0 = some (.cells true (paC p W cl sz kf lv fv zv ep))) (hF : FieldAt (Hm Hk) kf p W cl flv fep (W.clrs cl)) (hs : 1 ≤ sz ∧ sz ≤ 4) {n n0 : Nat} {up : List Nat} {rt dp : Nat → Nat} (ow : Own natF Hk uv up) (hW : Well up rt dp) (hlen : up.length = n) (hn : n ≤ 16384) (hnw : n = W.w.toNat * W.h.toNat) (hm : ∀ i ∈ slFp uv, X.hb ≤ i) (hkn : k ∉ slFp uv) (hfk : ∀ i ∈ slFp uv, i ≠ kf ∧ i ∉ slFp flv) {a b : Int} (hab : (Bx.mk 0 0 W.w W.h).has (a, b) = true) :
    ∃ Hk' up' dp', Yields tb (.st X.dep 2) [cellV a b] (laM X k uv n n0 .ready Hk) (laM X k uv n n0 .ready Hk') none true ∧ Own natF Hk' uv up' ∧ Well up' (rtN W cl sz a b ((Bx.mk 0 0 W.w W.h).ix (a, b)) W.w.toNat rt) dp' ∧ up'.length = n ∧ Keep (slFp uv) Hk Hk' ∧ Hk'.length = Hk.length := by
  have w1 := hF.w1
  have w2 := hF.h1
  obtain ⟨p1, p2, p3, p4⟩ := Bx.ix_lt hab
  have hb2 := Bx.has_iff.1 hab
  dsimp only at p3 hb2
  generalize (Bx.mk 0 0 W.w W.h).ix (a, b) = i at *
  have hmul : 0 ≤ b * W.w ∧ b * W.w ≤ 16384 := by
    refine ⟨Int.mul_nonneg (by omega) (by omega), ?_⟩
    have h1 : b * W.w ≤ 128 * W.w := Int.mul_le_mul_of_nonneg_right (by omega) (by omega)
    omega
  have hi : i < n := by rw [hnw]; exact p1
  have p3' : b * W.w + a = (i : Int) := by rw [← p3]; simp
  have so := ow.isSl natF_even
  have hst := fun {Y : Mem} (hX : HpSub (Hm Hk) Y) (hwY : Y.Wf) (x y : Int) => r_parts_stands (cl := cl) (sz := sz) (show (Hm Hk).get (.hp k 0) = _ from hP) hF hs hX hwY x y
  cases h0 : W.stands cl sz a b with
  | false =>
    refine ⟨Hk, up, dp, ?_, ow, by unfold rtN; rw [h0]; exact hW, hlen, Keep.refl _ _, rfl⟩
    intro fs e
    rw [RV_go (l := ⟨.ready, none, _, _, _, _⟩) _ _ _ (by simp (maxDischargeDepth := 8) only [go_sem, laM]; rfl) rfl rfl (by simp (maxDischargeDepth := 8) only [go_sem, laM, hw])]
    simp (maxDischargeDepth := 8) only [go_sem, laM, hw, so.l, hst, h0]
    try rfl
  | true =>
    have wb : IntKind.wrap .i64 (b * W.w) = b * W.w := wrap_small (by omega) (by omega)
    have wi : IntKind.wrap .i64 (b * W.w + a) = (i : Int) := by rw [p3']; exact wrap_small (by omega) (by omega)
    have wa1 : IntKind.wrap .i64 (a - 1) = a - 1 := wrap_small (by omega) (by omega)
    have wb1 : IntKind.wrap .i64 (b - 1) = b - 1 := wrap_small (by omega) (by omega)
    have hleft : W.stands cl sz (a - 1) b = true → 1 ≤ i ∧ IntKind.wrap .i64 ((i : Int) - 1) = ((i - 1 : Nat) : Int) := fun h => by
      have h1 := stands_bx7 h
      have : 1 ≤ i := by omega
      refine ⟨this, ?_⟩
      rw [wrap_small (by omega) (by omega)]; omega
    have hup : W.stands cl sz a (b - 1) = true → W.w.toNat ≤ i ∧ IntKind.wrap .i64 ((i : Int) - W.w) = ((i - W.w.toNat : Nat) : Int) := fun h => by
      have h1 := stands_bx7 h
      have h2 : 1 * W.w ≤ b * W.w := Int.mul_le_mul_of_nonneg_right (by omega) (by omega)
      have : W.w.toNat ≤ i := by omega
      refine ⟨this, ?_⟩
      rw [wrap_small (by omega) (by omega)]; omega
    cases hl : W.stands cl sz (a - 1) b with
    | false =>
      cases hu : W.stands cl sz a (b - 1) with
      | false =>
        refine ⟨Hk, up, dp, ?_, ow, by unfold rtN; rw [h0, hl, hu]; exact hW, hlen, Keep.refl _ _, rfl⟩
        intro fs e
        rw [RV_go (l := ⟨.ready, none, _, _, _, _⟩) _ _ _ (by simp (maxDischargeDepth := 8) only [go_sem, laM]; rfl) rfl rfl (by simp (maxDischargeDepth := 8) only [go_sem, laM, hw])]
        simp (maxDischargeDepth := 8) only [go_sem, laM, hw, so.l, hst, h0, hP, paC, wb, wi, wa1, wb1, hl, hu]
        try rfl
      | true =>
        obtain ⟨u1, u2⟩ := hup hu
        obtain ⟨Ha, Hb, H', up2, up', dp', r1, r2, lb, ht, st, o3, W3, l3, k1, k2, k3, e3⟩ := join1 ow hW X.hb hm (i := i) (j := i - W.w.toNat) (by omega) (by omega)
        refine ⟨H', up', dp', ?_, o3, by unfold rtN; rw [h0, hl, hu]; exact W3, by omega, k3, e3⟩
        intro fs e
        rw [RV_go (l := ⟨.ready, none, _, _, _, _⟩) _ _ _ (by simp (maxDischargeDepth := 8) only [go_sem, laM]; rfl) rfl rfl (by simp (maxDischargeDepth := 8) only [go_sem, laM, hw])]
        simp (maxDischargeDepth := 8) only [go_sem, laM, hw, so.l, hst, h0, hP, paC, wb, wi, wa1, wb1, hl, hu, u2]
        generalize hz : RF tb f_parts_root _ _ = z
        obtain rfl := hz.symm.trans (r1 _ (by rfl) (by rfl) (by simp (maxDischargeDepth := 8) only [go_sem, hw]))
        have hPa := k1.get hP hkn
        simp (maxDischargeDepth := 8) only [go_sem, hw, hP, hPa, paC]
        generalize hz : RF tb f_parts_root _ _ = z
        obtain rfl := hz.symm.trans (r2 _ (by rfl) (by rfl) (by simp (maxDischargeDepth := 8) only [go_sem, hw]))
        have st' : ∀ f e2, ((((laM X k uv n n0 .busy Hb).frs fs e).fr f e2).store (.hp (slN uv) (slW uv)) (slO uv + rt i) [.int .i64 (rt (i - W.w.toNat) : Int)]) = some (((laM X k uv n n0 .busy H').frs fs e).fr f e2) := fun f e2 => st _ rfl rfl
        simp (maxDischargeDepth := 8) only [go_sem, hw, lb.iaddrN ht]
        rw [show ∀ f e2, _ = _ from st']
        simp (maxDischargeDepth := 8) only [go_sem, hw]
        rw [List.take_of_length_le (by omega)]
    | true =>
      obtain ⟨q1, q2⟩ := hleft hl
      obtain ⟨Ha, Hb, H', up2, up', dp', r1, r2, lb, ht, st, o3, W3, l3, k1, k2, k3, e3⟩ := join1 ow hW X.hb hm (i := i) (j := i - 1) (by omega) (by omega)
      have hP' := k3.get hP hkn
      have hkf : kf ∉ slFp uv := fun hc => (hfk _ hc).1 rfl
      have hF' : FieldAt (Hm H') kf p W cl flv fep (W.clrs cl) := ⟨k3.get (show hget Hk kf 0 = _ from hF.hd) hkf, hF.ll.keep k3 (fun j hj hc => (hfk _ hc).2 hj), hF.len, hF.w1, hF.h1⟩
      have hst' := fun {Y : Mem} (hX : HpSub (Hm H') Y) (hwY : Y.Wf) (x y : Int) => r_parts_stands (cl := cl) (sz := sz) (show (Hm H').get (.hp k 0) = _ from hP') hF' hs hX hwY x y
      have st' : ∀ fs e f e2, ((((laM X k uv n n0 .busy Hb).frs fs e).fr f e2).store (.hp (slN uv) (slW uv)) (slO uv + rt i) [.int .i64 (rt (i - 1) : Int)]) = some (((laM X k uv n n0 .busy H').frs fs e).fr f e2) := fun fs e f e2 => st _ rfl rfl
      have hPa := k1.get hP hkn
      cases hu : W.stands cl sz a (b - 1) with
      | false =>
        refine ⟨H', up', dp', ?_, o3, by unfold rtN; rw [h0, hl, hu]; exact W3, by omega, k3, e3⟩
        intro fs e
        rw [RV_go (l := ⟨.ready, none, _, _, _, _⟩) _ _ _ (by simp (maxDischargeDepth := 8) only [go_sem, laM]; rfl) rfl rfl (by simp (maxDischargeDepth := 8) only [go_sem, laM, hw])]
        simp (maxDischargeDepth := 8) only [go_sem, laM, hw, so.l, hst, h0, hP, paC, wb, wi, wa1, wb1, hl, q2]
        generalize hz : RF tb f_parts_root _ _ = z
        obtain rfl := hz.symm.trans (r1 _ (by rfl) (by rfl) (by simp (maxDischargeDepth := 8) only [go_sem, hw]))
        simp (maxDischargeDepth := 8) only [go_sem, hw, hP, hPa, paC]
        generalize hz : RF tb f_parts_root _ _ = z
        obtain rfl := hz.symm.trans (r2 _ (by rfl) (by rfl) (by simp (maxDischargeDepth := 8) only [go_sem, hw]))
        simp (maxDischargeDepth := 8) only [go_sem, hw, lb.iaddrN ht]
        rw [show ∀ f e2, _ = _ from st' fs e]
        simp (maxDischargeDepth := 8) only [go_sem, hw, so.l, hst', hP', paC, wb1, hu]
        rw [List.take_of_length_le (by omega)]
      | true =>
        obtain ⟨u1, u2⟩ := hup hu
        obtain ⟨Hc, Hd, H'', up3, up'', dp'', s1, s2, ld, hd, sd, o5, W5, l5, j1, j2, j3, e5⟩ := join1 o3 W3 X.hb hm (i := i) (j := i - W.w.toNat) (by omega) (by omega)
        have sd' : ∀ fs e f e2, ((((laM X k uv n n0 .busy Hd).frs fs e).fr f e2).store (.hp (slN uv) (slW uv)) (slO uv + jn rt i (i - 1) i) [.int .i64 (jn rt i (i - 1) (i - W.w.toNat) : Int)]) = some (((laM X k uv n n0 .busy H'').frs fs e).fr f e2) := fun fs e f e2 => sd _ rfl rfl
        have hPc := j1.get hP' hkn
        refine ⟨H'', up'', dp'', ?_, o5, by unfold rtN; rw [h0, hl, hu]; exact W5, by omega, k3.trans j3, by omega⟩
        intro fs e
        rw [RV_go (l := ⟨.ready, none, _, _, _, _⟩) _ _ _ (by simp (maxDischargeDepth := 8) only [go_sem, laM]; rfl) rfl rfl (by simp (maxDischargeDepth := 8) only [go_sem, laM, hw])]
        simp (maxDischargeDepth := 8) only [go_sem, laM, hw, so.l, hst, h0, hP, paC, wb, wi, wa1, wb1, hl, q2]
        generalize hz : RF tb f_parts_root _ _ = z
        obtain rfl := hz.symm.trans (r1 _ (by rfl) (by rfl) (by simp (maxDischargeDepth := 8) only [go_sem, hw]))
        simp (maxDischargeDepth := 8) only [go_sem, hw, hP, hPa, paC]
        generalize hz : RF tb f_parts_root _ _ = z
        obtain rfl := hz.symm.trans (r2 _ (by rfl) (by rfl) (by simp (maxDischargeDepth := 8) only [go_sem, hw]))
        simp (maxDischargeDepth := 8) only [go_sem, hw, lb.iaddrN ht]
        rw [show ∀ f e2, _ = _ from st' fs e]
        simp (maxDischargeDepth := 8) only [go_sem, hw, so.l, hst', hP', paC, wb1, hu, u2]
        generalize hz : RF tb f_parts_root _ _ = z
        obtain rfl := hz.symm.trans (s1 _ (by rfl) (by rfl) (by simp (maxDischargeDepth := 8) only [go_sem, hw]))
        simp (maxDischargeDepth := 8) only [go_sem, hw, hP', hPc, paC]
        generalize hz : RF tb f_parts_root _ _ = z
        obtain rfl := hz.symm.trans (s2 _ (by rfl) (by rfl) (by simp (maxDischargeDepth := 8) only [go_sem, hw]))
        simp (maxDischargeDepth := 8) only [go_sem, hw, ld.iaddrN hd]
        rw [show ∀ f e2, _ = _ from sd' fs e]
        simp (maxDischargeDepth := 8) only [go_sem, hw]
        rw [List.take_of_length_le (by omega)]
def stI (W : Wd) (cl sz : Int) (i : Nat) : Bool := W.stands cl sz ((i % W.w.toNat : Nat) : Int) ((i / W.w.toNat : Nat) : Int)
/-- The links of the cells below m. -/
def EL (W : Wd) (cl sz : Int) (m : Nat) (a b : Nat) : Prop := a < m ∧ stI W cl sz a = true ∧ stI W cl sz b = true ∧ ((a % W.w.toNat ≠ 0 ∧ b + 1 = a) ∨ b + W.w.toNat = a)
theorem lnk_congr {E F : Nat → Nat → Prop} (h : ∀ a b, E a b ↔ F a b) {x y : Nat} : Lnk E x y ↔ Lnk F x y :=
  ⟨Lnk.mono fun a b e => .step (.refl _) (.inl ((h a b).1 e)), Lnk.mono fun a b e => .step (.refl _) (.inl ((h a b).2 e))⟩
theorem stI_left {W : Wd} (w1 : 1 ≤ W.w) {cl sz : Int} {i : Nat} : W.stands cl sz (((i % W.w.toNat : Nat) : Int) - 1) ((i / W.w.toNat : Nat) : Int) = true ↔ i % W.w.toNat ≠ 0 ∧ stI W cl sz (i - 1) = true := by
  by_cases h0 : i % W.w.toNat = 0
  · constructor
    · intro h
      have := stands_bx7 h
      omega
    · exact fun h => absurd h0 h.1
  · have hw : 0 < W.w.toNat := by omega
    have h1 : (i - 1) % W.w.toNat = i % W.w.toNat - 1 ∧ (i - 1) / W.w.toNat = i / W.w.toNat := by
      have e := Nat.div_add_mod i W.w.toNat
      have hl := Nat.mod_lt i hw
      have e2 : i - 1 = W.w.toNat * (i / W.w.toNat) + (i % W.w.toNat - 1) := by omega
      constructor
      · rw [e2, Nat.mul_add_mod, Nat.mod_eq_of_lt (by omega)]
      · rw [e2, Nat.mul_add_div hw, Nat.div_eq_of_lt (show i % W.w.toNat - 1 < W.w.toNat by omega), Nat.add_zero]
    unfold stI
    rw [h1.1, h1.2, show (((i % W.w.toNat - 1 : Nat) : Int)) = ((i % W.w.toNat : Nat) : Int) - 1 by omega]
    exact ⟨fun h => ⟨h0, h⟩, fun h => h.2⟩
theorem stI_up {W : Wd} (w1 : 1 ≤ W.w) {cl sz : Int} {i : Nat} : W.stands cl sz ((i % W.w.toNat : Nat) : Int) (((i / W.w.toNat : Nat) : Int) - 1) = true ↔ W.w.toNat ≤ i ∧ stI W cl sz (i - W.w.toNat) = true := by
  have hw : 0 < W.w.toNat := by omega
  by_cases h0 : i < W.w.toNat
  · constructor
    · intro h
      have h2 := stands_bx7 h
      have : i / W.w.toNat = 0 := Nat.div_eq_of_lt h0
      omega
    · exact fun h => by omega
  · have h1 : (i - W.w.toNat) % W.w.toNat = i % W.w.toNat ∧ (i - W.w.toNat) / W.w.toNat = i / W.w.toNat - 1 := by
      refine ⟨(Nat.mod_eq_sub_mod (by omega)).symm, ?_⟩
      rw [Nat.div_eq_sub_div hw (by omega : W.w.toNat ≤ i), Nat.add_sub_cancel]
    have h2 : 1 ≤ i / W.w.toNat := Nat.div_pos (by omega) hw
    unfold stI
    rw [h1.1, h1.2, show (((i / W.w.toNat - 1 : Nat) : Int)) = ((i / W.w.toNat : Nat) : Int) - 1 by omega]
    exact ⟨fun h => ⟨by omega, h⟩, fun h => h.2⟩
/-- One cell more. -/
theorem rtN_law {W : Wd} (w1 : 1 ≤ W.w) {cl sz : Int} {n m : Nat} (hm : m < n) {rt : Nat → Nat} (h : ∀ x y, x < n → y < n → (rt x = rt y ↔ Lnk (EL W cl sz m) x y)) :
    ∀ x y, x < n → y < n → (rtN W cl sz ((m % W.w.toNat : Nat) : Int) ((m / W.w.toNat : Nat) : Int) m W.w.toNat rt x = rtN W cl sz ((m % W.w.toNat : Nat) : Int) ((m / W.w.toNat : Nat) : Int) m W.w.toNat rt y ↔ Lnk (EL W cl sz (m + 1)) x y) := by
  have hw : 0 < W.w.toNat := by omega
  have hin : ∀ k, k ≤ n → ∀ x y, EL W cl sz k x y → x < n ∧ y < n := fun k hk x y e => ⟨by have := e.1; omega, by have := e.1; rcases e.2.2.2 with h | h <;> omega⟩
  have hself : stI W cl sz m = W.stands cl sz ((m % W.w.toNat : Nat) : Int) ((m / W.w.toNat : Nat) : Int) := rfl
  have hlf := stI_left (W := W) w1 (cl := cl) (sz := sz) (i := m)
  have hup := stI_up (W := W) w1 (cl := cl) (sz := sz) (i := m)
  have two : ∀ {P Q : Nat → Nat → Prop} {rt1 : Nat → Nat}, (∀ a b, P a b ↔ Q a b) → (∀ x y, x < n → y < n → (rt1 x = rt1 y ↔ Lnk P x y)) → ∀ x y, x < n → y < n → (rt1 x = rt1 y ↔ Lnk Q x y) := fun hpq h1 x y hx hy => (h1 x y hx hy).trans (lnk_congr hpq)
  unfold rtN
  cases h0 : W.stands cl sz ((m % W.w.toNat : Nat) : Int) ((m / W.w.toNat : Nat) : Int) with
  | false =>
    refine two (fun a b => ?_) h
    constructor
    · exact fun e => ⟨by have := e.1; omega, e.2⟩
    · rintro ⟨e1, e2, e3⟩
      refine ⟨?_, e2, e3⟩
      by_cases e : a = m
      · subst e; rw [hself, h0] at e2; cases e2
      · omega
  | true =>
    simp only [if_true]
    have hst : stI W cl sz m = true := by rw [hself]; exact h0
    -- the links of this cell
    have key : ∀ (L U : Bool), (L = true ↔ m % W.w.toNat ≠ 0 ∧ stI W cl sz (m - 1) = true) → (U = true ↔ W.w.toNat ≤ m ∧ stI W cl sz (m - W.w.toNat) = true) →
        ∀ x y, x < n → y < n → ((if U = true then jn (if L = true then jn rt m (m - 1) else rt) m (m - W.w.toNat) else if L = true then jn rt m (m - 1) else rt) x = (if U = true then jn (if L = true then jn rt m (m - 1) else rt) m (m - W.w.toNat) else if L = true then jn rt m (m - 1) else rt) y ↔ Lnk (EL W cl sz (m + 1)) x y) := by
      intro L U hL hU
      have step1 : ∀ x y, x < n → y < n → ((if L = true then jn rt m (m - 1) else rt) x = (if L = true then jn rt m (m - 1) else rt) y ↔ Lnk (fun p q => EL W cl sz m p q ∨ (L = true ∧ p = m ∧ q = m - 1)) x y) := by
        cases L with
        | false => exact two (fun a b => by simp) (fun x y hx hy => h x y hx hy)
        | true => exact two (fun a b => by simp) (fun x y hx hy => lnk_join h hm (by omega) (hin m (by omega)) x y hx hy)
      have step2 : ∀ x y, x < n → y < n → ((if U = true then jn (if L = true then jn rt m (m - 1) else rt) m (m - W.w.toNat) else if L = true then jn rt m (m - 1) else rt) x = (if U = true then jn (if L = true then jn rt m (m - 1) else rt) m (m - W.w.toNat) else if L = true then jn rt m (m - 1) else rt) y ↔ Lnk (fun p q => (EL W cl sz m p q ∨ (L = true ∧ p = m ∧ q = m - 1)) ∨ (U = true ∧ p = m ∧ q = m - W.w.toNat)) x y) := by
        cases U with
        | false => exact two (fun a b => by simp) (fun x y hx hy => step1 x y hx hy)
        | true => exact two (fun a b => by simp) (fun x y hx hy => lnk_join step1 hm (by omega) (fun p q e => by
            rcases e with e | ⟨_, rfl, rfl⟩
            · exact hin m (by omega) p q e
            · exact ⟨hm, by omega⟩) x y hx hy)
      refine two (fun a b => ?_) step2
      constructor
      · rintro ((e | ⟨e1, rfl, rfl⟩) | ⟨e1, rfl, rfl⟩)
        · exact ⟨by have := e.1; omega, e.2⟩
        · have := hL.1 e1
          have hpos : 1 ≤ a := by
            rcases Nat.eq_zero_or_pos a with h | h
            · subst h; simp at this
            · exact h
          exact ⟨Nat.lt_succ_self _, hst, this.2, .inl ⟨this.1, by omega⟩⟩
        · have := hU.1 e1
          exact ⟨Nat.lt_succ_self _, hst, this.2, .inr (by omega)⟩
      · rintro ⟨e1, e2, e3, e4⟩
        by_cases e : a = m
        · subst e
          rcases e4 with ⟨e4, e5⟩ | e5
          · have : b = a - 1 := by omega
            subst this
            exact .inl (.inr ⟨hL.2 ⟨e4, e3⟩, rfl, rfl⟩)
          · have : b = a - W.w.toNat := by omega
            subst this
            exact .inr ⟨hU.2 ⟨by omega, e3⟩, rfl, rfl⟩
        · exact .inl (.inl ⟨by omega, e2, e3, e4⟩)
    exact key _ _ hlf hup
def mxP (f : Nat → Nat) : Nat → Nat
  | 0 => 0
  | i + 1 => if mxP f i < f i then f i else mxP f i
def fsP (f : Nat → Nat) : Nat → List Nat
  | 0 => []
  | i + 1 => if mxP f i < f i then fsP f i ++ [i] else fsP f i
def cnP (f : Nat → Nat) (m : Nat) : Nat → Nat
  | 0 => 0
  | i + 1 => cnP f m i + if f i = m then 1 else 0
theorem mxP_congr {f g : Nat → Nat} : ∀ k, (∀ i, i < k → f i = g i) → mxP f k = mxP g k := by
  intro k
  induction k with
  | zero => exact fun _ => rfl
  | succ k ih => intro h; simp only [mxP, ih (fun i hi => h i (by omega)), h k (by omega)]
theorem fsP_congr {f g : Nat → Nat} : ∀ k, (∀ i, i < k → f i = g i) → fsP f k = fsP g k := by
  intro k
  induction k with
  | zero => exact fun _ => rfl
  | succ k ih => intro h; simp only [fsP, ih (fun i hi => h i (by omega)), mxP_congr k (fun i hi => h i (by omega)), h k (by omega)]
theorem cnP_congr {f g : Nat → Nat} (m : Nat) : ∀ k, (∀ i, i < k → f i = g i) → cnP f m k = cnP g m k := by
  intro k
  induction k with
  | zero => exact fun _ => rfl
  | succ k ih => intro h; simp only [cnP, ih (fun i hi => h i (by omega)), h k (by omega)]
theorem le_mxP {f : Nat → Nat} : ∀ k i, i < k → f i ≤ mxP f k := by
  intro k
  induction k with
  | zero => intro i h; omega
  | succ k ih =>
    intro i h
    simp only [mxP]
    by_cases e : i = k
    · subst e; split <;> omega
    · have := ih i (by omega); split <;> omega
theorem cnP_big {f : Nat → Nat} {m : Nat} : ∀ k, (∀ i, i < k → f i ≠ m) → cnP f m k = 0 := by
  intro k
  induction k with
  | zero => exact fun _ => rfl
  | succ k ih => intro h; simp only [cnP, ih (fun i hi => h i (by omega)), if_neg (h k (by omega))]
/-- What the numbering has come to behind the first k cells. -/
structure Lab (n : Nat) (st : Nat → Bool) (rt : Nat → Nat) (cl : Nat → Int × Int) (k : Nat) (L : List Nat) (F : List (Int × Int)) (Z : List Nat) (num : Nat → Nat) : Prop where
  len : L.length = n
  hi : ∀ i, k ≤ i → L.getD i 0 = 0
  mx : F.length = mxP (fun i => L.getD i 0) k
  fs : F = (fsP (fun i => L.getD i 0) k).map cl
  zs : Z = (List.range F.length).map fun j => cnP (fun i => L.getD i 0) (j + 1) k
  le : ∀ r, num r ≤ F.length
  nu : ∀ i, i < k → st i = true → num (rt i) ≠ 0 ∧ L.getD i 0 = num (rt i)
  ex : ∀ r, num r ≠ 0 → ∃ i, i < k ∧ st i = true ∧ rt i = r
  ca : Canon k st (fun x y => rt x = rt y) (fun i => L.getD i 0)
  ct : cntF st (fun x y => rt x = rt y) k = F.length
section
variable {n k : Nat} {st : Nat → Bool} {rt : Nat → Nat} {cl : Nat → Int × Int} {L : List Nat} {F : List (Int × Int)} {Z : List Nat} {num : Nat → Nat}
theorem lab_zero (n : Nat) (st : Nat → Bool) (rt : Nat → Nat) (cl : Nat → Int × Int) : Lab n st rt cl 0 (List.replicate n 0) [] [] (fun _ => 0) := by
  have h0 : ∀ i, (List.replicate n 0).getD i 0 = 0 := fun i => by
    rw [List.getD_eq_getElem?_getD, List.getElem?_replicate]; split <;> rfl
  exact ⟨by simp, fun i _ => h0 i, rfl, rfl, rfl, fun _ => Nat.le_refl _, fun i h => by omega, fun r h => absurd rfl h, fun i h => by omega, rfl⟩
theorem getD_set {L : List Nat} {k v : Nat} (h : k < L.length) (i : Nat) : (L.set k v).getD i 0 = if i = k then v else L.getD i 0 := by
  rw [List.getD_eq_getElem?_getD, List.getElem?_set, List.getD_eq_getElem?_getD]
  by_cases e : k = i
  · subst e; rw [if_pos rfl, if_pos h, if_pos rfl]; rfl
  · rw [if_neg e, if_neg (fun h => e h.symm)]
/-- A cell that does not stand. -/
theorem Lab.no (h : Lab n st rt cl k L F Z num) (hs : st k = false) : Lab n st rt cl (k + 1) L F Z num := by
  have h0 : L.getD k 0 = 0 := h.hi k (Nat.le_refl _)
  refine ⟨h.len, fun i hi => h.hi i (by omega), ?_, ?_, ?_, h.le, fun i hi hsi => ?_, fun r hr => ?_, fun i hi => ?_, ?_⟩
  · simp only [mxP, h0, if_neg (Nat.not_lt_zero _)]; exact h.mx
  · simp only [fsP, h0, if_neg (Nat.not_lt_zero _)]; exact h.fs
  · refine h.zs.trans (List.map_congr_left ?_)
    intro j _
    simp only [cnP, h0, if_neg (show ¬ 0 = j + 1 by omega), Nat.add_zero]
  · by_cases e : i = k
    · subst e; rw [hs] at hsi; cases hsi
    · exact h.nu i (by omega) hsi
  · obtain ⟨i, h1, h2⟩ := h.ex r hr
    exact ⟨i, by omega, h2⟩
  · by_cases e : i = k
    · subst e; exact ⟨fun _ => h0, fun h => by rw [hs] at h; cases h⟩
    · exact h.ca i (by omega)
  · rw [cntF_no (fun hf => by have := hf.1; rw [hs] at this; cases this)]; exact h.ct
/-- A cell that stands. -/
theorem Lab.yes (h : Lab n st rt cl k L F Z num) (hk : k < n) (hs : st k = true) :
    Lab n st rt cl (k + 1) (L.set k (if num (rt k) = 0 then F.length + 1 else num (rt k))) (if num (rt k) = 0 then F ++ [cl k] else F)
      ((if num (rt k) = 0 then Z ++ [0] else Z).set ((if num (rt k) = 0 then F.length + 1 else num (rt k)) - 1) ((if num (rt k) = 0 then Z ++ [0] else Z).getD ((if num (rt k) = 0 then F.length + 1 else num (rt k)) - 1) 0 + 1))
      (fun r => if num (rt k) = 0 ∧ r = rt k then F.length + 1 else num r) := by
  have hkl : k < L.length := by rw [h.len]; exact hk
  have hZ : Z.length = F.length := by rw [h.zs, List.length_map, List.length_range]
  obtain ⟨v, hv⟩ : ∃ v, (if num (rt k) = 0 then F.length + 1 else num (rt k)) = v := ⟨_, rfl⟩
  rw [hv]
  have hlow : ∀ i, i < k → (fun i => L.getD i 0) i = (fun i => (L.set k v).getD i 0) i := fun i hi => by
    dsimp only; rw [getD_set hkl, if_neg (by omega)]
  have hkv : (L.set k v).getD k 0 = v := by rw [getD_set hkl, if_pos rfl]
  have hm := h.mx
  rw [mxP_congr k hlow] at hm
  have hcan : ∀ i, i < k → (st i = false → (L.set k v).getD i 0 = 0) ∧ (st i = true → (∃ j, j < i ∧ st j = true ∧ rt j = rt i ∧ (L.set k v).getD i 0 = (L.set k v).getD j 0) ∨ ((∀ j, j < i → st j = true → ¬ rt j = rt i) ∧ (L.set k v).getD i 0 = cntF st (fun x y => rt x = rt y) i + 1)) := fun i hi => by
    have := h.ca i hi
    have e := hlow i hi
    dsimp only at e
    rw [← e]
    refine ⟨this.1, fun hs => (this.2 hs).imp ?_ id⟩
    rintro ⟨j, j1, j2, j3, j4⟩
    have e2 := hlow j (by omega)
    dsimp only at e2
    exact ⟨j, j1, j2, j3, by rw [← e2]; exact j4⟩
  by_cases h0 : num (rt k) = 0
  · rw [if_pos h0] at hv
    simp only [h0, if_true, true_and]
    have hfst : Fst st (fun x y => rt x = rt y) k := ⟨hs, fun j hj hsj hr => by
      have := (h.nu j hj hsj).1
      rw [hr] at this
      exact this h0⟩
    have hlt : mxP (fun i => (L.set k v).getD i 0) k < (L.set k v).getD k 0 := by rw [hkv, ← hm]; omega
    have hFl : (F ++ [cl k]).length = F.length + 1 := by simp
    refine ⟨by rw [List.length_set]; exact h.len, fun i hi => ?_, ?_, ?_, ?_, fun r => ?_, fun i hi hsi => ?_, fun r hr => ?_, fun i hi => ?_, ?_⟩
    · rw [getD_set hkl, if_neg (by omega)]; exact h.hi i (by omega)
    · simp only [mxP, if_pos hlt, hFl]
      rw [hkv]; omega
    · simp only [fsP, if_pos hlt, List.map_append, List.map_cons, List.map_nil]
      rw [← fsP_congr k hlow, ← h.fs]
    · rw [hFl, List.range_succ, List.map_append]
      apply List.ext_getElem?
      intro j
      have hz : ∀ j, j < F.length → Z[j]? = some (cnP (fun i => L.getD i 0) (j + 1) k) := fun j hj => by
        rw [h.zs, List.getElem?_map, List.getElem?_range hj]; rfl
      have hv1 : v - 1 = Z.length := by omega
      rw [hv1, List.getElem?_set]
      by_cases e : Z.length = j
      · subst e
        rw [if_pos rfl, if_pos (by simp), List.getElem?_append_right (by simp; omega)]
        have hz0 : (Z ++ [0]).getD Z.length 0 = 0 := by rw [List.getD_eq_getElem?_getD, List.getElem?_append_right (Nat.le_refl _)]; simp
        rw [hz0]
        have : cnP (fun i => (L.set k v).getD i 0) (F.length + 1) (k + 1) = 1 := by
          simp only [cnP, hkv]
          rw [if_pos (by omega), cnP_big k (fun i hi => ?_)]
          have h1 := le_mxP (f := fun i => (L.set k v).getD i 0) k i hi
          have h1' : (L.set k v).getD i 0 ≤ mxP (fun i => (L.set k v).getD i 0) k := h1
          show (L.set k v).getD i 0 ≠ F.length + 1
          omega
        rw [hZ, show F.length - ((List.range F.length).map fun j => cnP (fun i => (L.set k v).getD i 0) (j + 1) (k + 1)).length = 0 by simp]
        show some (0 + 1) = some (cnP (fun i => (L.set k v).getD i 0) (F.length + 1) (k + 1))
        rw [this]
      · rw [if_neg e]
        by_cases e2 : j < F.length
        · rw [List.getElem?_append_left (by omega), hz j e2, List.getElem?_append_left (by simp; omega), List.getElem?_map, List.getElem?_range e2]
          simp only [Option.map_some, Option.some.injEq]
          simp only [cnP, hkv]
          rw [if_neg (by omega), Nat.add_zero]
          exact cnP_congr _ k hlow
        · rw [List.getElem?_eq_none (by simp; omega), List.getElem?_eq_none (by simp; omega)]
    · rw [hFl]; split
      · omega
      · have := h.le r; omega
    · by_cases e : i = k
      · subst e; rw [if_pos rfl, hkv]; exact ⟨by omega, hv.symm⟩
      · have hne : ¬ rt i = rt k := fun he => hfst.2 i (by omega) hsi he
        have e2 := hlow i (by omega)
        dsimp only at e2
        rw [if_neg hne, ← e2]
        exact h.nu i (by omega) hsi
    · by_cases e : r = rt k
      · exact ⟨k, by omega, hs, e.symm⟩
      · rw [if_neg e] at hr
        obtain ⟨i, h1, h2⟩ := h.ex r hr
        exact ⟨i, by omega, h2⟩
    · by_cases e : i = k
      · subst e
        refine ⟨fun h => (by rw [hs] at h; cases h), fun _ => .inr ⟨fun j hj hsj hr => hfst.2 j hj hsj hr, ?_⟩⟩
        show (L.set i v).getD i 0 = _
        rw [hkv, h.ct, hv]
      · exact hcan i (by omega)
    · rw [cntF_fst hfst, h.ct, hFl]
  · rw [if_neg h0] at hv
    simp only [h0, if_false, false_and]
    obtain ⟨i0, i1, i2, i3⟩ := h.ex (rt k) h0
    have hvl := h.le (rt k)
    have hlt : ¬ mxP (fun i => (L.set k v).getD i 0) k < (L.set k v).getD k 0 := by rw [hkv, ← hm]; omega
    refine ⟨by rw [List.length_set]; exact h.len, fun i hi => ?_, ?_, ?_, ?_, h.le, fun i hi hsi => ?_, fun r hr => ?_, fun i hi => ?_, ?_⟩
    · rw [getD_set hkl, if_neg (by omega)]; exact h.hi i (by omega)
    · simp only [mxP, if_neg hlt]; exact hm
    · simp only [fsP, if_neg hlt]
      rw [← fsP_congr k hlow]; exact h.fs
    · apply List.ext_getElem?
      intro j
      have hz : ∀ j, j < F.length → Z[j]? = some (cnP (fun i => L.getD i 0) (j + 1) k) := fun j hj => by
        rw [h.zs, List.getElem?_map, List.getElem?_range hj]; rfl
      rw [List.getElem?_set]
      by_cases e2 : j < F.length
      · rw [List.getElem?_map, List.getElem?_range e2]
        simp only [Option.map_some, cnP]
        rw [← cnP_congr (j + 1) k hlow]
        simp only [hkv]
        by_cases e : v - 1 = j
        · rw [if_pos e, if_pos (by omega), if_pos (by omega), List.getD_eq_getElem?_getD, e, hz j e2]; rfl
        · rw [if_neg e, hz j e2, if_neg (by omega)]; rfl
      · rw [if_neg (by omega), List.getElem?_eq_none (by omega), List.getElem?_eq_none (by simp; omega)]
    · by_cases e : i = k
      · subst e; rw [hkv]; exact ⟨h0, hv.symm⟩
      · have e2 := hlow i (by omega)
        dsimp only at e2
        rw [← e2]; exact h.nu i (by omega) hsi
    · obtain ⟨i, h1, h2⟩ := h.ex r hr
      exact ⟨i, by omega, h2⟩
    · by_cases e : i = k
      · subst e
        refine ⟨fun h => (by rw [hs] at h; cases h), fun _ => .inl ⟨i0, i1, i2, i3, ?_⟩⟩
        have e1 := hlow i0 i1
        dsimp only at e1
        show (L.set i v).getD i 0 = (L.set i v).getD i0 0
        rw [hkv, ← e1, (h.nu i0 i1 i2).2, i3, hv]
      · exact hcan i (by omega)
    · rw [cntF_no (fun hf => hf.2 i0 i1 i2 i3)]; exact h.ct
end
end Go.Sh.T
