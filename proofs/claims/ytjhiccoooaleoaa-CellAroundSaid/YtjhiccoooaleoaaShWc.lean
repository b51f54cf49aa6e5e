import Derived.Test.YtjhiccoooaleoaaShWb
set_option linter.all false
set_option linter.unusedVariables false
set_option linter.unusedSimpArgs false
set_option autoImplicit false
namespace Go.Sh.T
open Go.Sh
set_option maxHeartbeats 4000000
set_option maxRecDepth 20000
/-- A rectangle's cells, row by row. -/
def cellsL (x y w h : Int) : List (List SV) := if mayB x y w h then (List.range (w.toNat * h.toNat)).map fun n => [.agg [.int .i64 (x + ((n % w.toNat : Nat) : Int)), .int .i64 (y + ((n / w.toNat : Nat) : Int))]] else []
def boxAt (d n : Nat) (x y w h : Int) (m : Mem) : Prop := m.dep = d ∧ m.Wf ∧ m.get (.hp n 0) = some (.cells true [.int .i64 x, .int .i64 y, .int .i64 w, .int .i64 h])
theorem r_cell_Cells (m : Mem) (hm : m.Wf) (x y w h : Int) : RF tb f_cell_Cells [rect x y w h] m = some (.fn f_cell_Cells_1 [] [.ptr (.hp m.hl 0) 0], m.hap [(0, .cells true [.int .i64 x, .int .i64 y, .int .i64 w, .int .i64 h])]) := by
  rw [RF_go t_cell_Cells _ _ rfl]
  simp (maxDischargeDepth := 8) only [go_sem, reduceIte, reduceCtorEq, Nat.reduceEqDiff, Nat.reduceAdd, Nat.reduceMul, Nat.reduceSub, Nat.reduceLeDiff, Nat.reduceLT, Nat.reduceBEq, Int.reduceToNat, Int.reduceEq, Int.reduceLT, Int.reduceLE, Int.reduceAdd, Int.reduceSub, Int.reduceMul, Int.reduceNeg, s_cell_Cells, hm, rect]
theorem r_cell_Cells_1 {D i d n : Nat} (hD : D < d) {x y w hh : Int} {M M' : Mem} {U : Option Nat} {go : Bool} (hB : boxAt d n x y w hh M) (hR : Rounds tb (.st D i) (boxAt d n x y w hh) M.hl (cellsL x y w hh) M none M' U go) (fs : List (List SBk)) (e : Option Nat) :
    RF tb f_cell_Cells_1 [.yld (.st D i), .ptr (.hp n 0) 0] (M.frs fs e) = some (.tup [], M'.frs fs (escMin e U)) := by
  rw [RF_go t_cell_Cells_1 _ _ rfl]
  have hb : ∀ {m : Mem}, boxAt d n x y w hh m → ∀ off k, m.load (.hp n 0) off k = partv [.int .i64 x, .int .i64 y, .int .i64 w, .int .i64 hh] off k := fun h off k => by rw [load_get, h.2.2]
  simp (maxDischargeDepth := 8) only [go_sem, reduceIte, reduceCtorEq, Nat.reduceEqDiff, Nat.reduceAdd, Nat.reduceMul, Nat.reduceSub, Nat.reduceLeDiff, Nat.reduceLT, Nat.reduceBEq, Int.reduceToNat, Int.reduceEq, Int.reduceLT, Int.reduceLE, Int.reduceAdd, Int.reduceSub, Int.reduceMul, Int.reduceNeg, s_cell_Cells_1, hB.2.1, hb hB, r_cell_May]
  cases hmay : mayB x y w hh with
  | false =>
    have e0 : cellsL x y w hh = [] := by simp [cellsL, hmay]
    rw [e0] at hR
    cases hR
    simp (maxDischargeDepth := 8) only [go_sem, reduceIte, reduceCtorEq, Nat.reduceEqDiff, Nat.reduceAdd, Nat.reduceMul, Nat.reduceSub, Nat.reduceLeDiff, Nat.reduceLT, Nat.reduceBEq, Int.reduceToNat, Int.reduceEq, Int.reduceLT, Int.reduceLE, Int.reduceAdd, Int.reduceSub, Int.reduceMul, Int.reduceNeg]
  | true =>
    have e0 : cellsL x y w hh = (List.range (w.toNat * hh.toNat)).map fun n => [.agg [.int .i64 (x + ((n % w.toNat : Nat) : Int)), .int .i64 (y + ((n / w.toNat : Nat) : Int))]] := by simp [cellsL, hmay]
    rw [e0] at hR
    generalize hL : ((List.range (w.toNat * hh.toNat)).map fun n => [SV.agg [.int .i64 (x + ((n % w.toNat : Nat) : Int)), .int .i64 (y + ((n / w.toNat : Nat) : Int))]]) = L at hR
    have hm4 := may_in hmay
    have hwh : (1 ≤ w ∧ w ≤ 1048576) ∧ (1 ≤ hh ∧ hh ≤ 1048576) := by simp [mayB, sideB] at hmay; omega
    simp (maxDischargeDepth := 8) only [go_sem, reduceIte, reduceCtorEq, Nat.reduceEqDiff, Nat.reduceAdd, Nat.reduceMul, Nat.reduceSub, Nat.reduceLeDiff, Nat.reduceLT, Nat.reduceBEq, Int.reduceToNat, Int.reduceEq, Int.reduceLT, Int.reduceLE, Int.reduceAdd, Int.reduceSub, Int.reduceMul, Int.reduceNeg, hb hB]
    rw [KL_keep _ _ _ (by simp (maxDischargeDepth := 8) only [go_sem, reduceIte, reduceCtorEq, Nat.reduceEqDiff, Nat.reduceAdd, Nat.reduceMul, Nat.reduceSub, Nat.reduceLeDiff, Nat.reduceLT, Nat.reduceBEq, Int.reduceToNat, Int.reduceEq, Int.reduceLT, Int.reduceLE, Int.reduceAdd, Int.reduceSub, Int.reduceMul, Int.reduceNeg, hD, hB.1])]
    simp (maxDischargeDepth := 8) only [go_sem, reduceIte, reduceCtorEq, Nat.reduceEqDiff, Nat.reduceAdd, Nat.reduceMul, Nat.reduceSub, Nat.reduceLeDiff, Nat.reduceLT, Nat.reduceBEq, Int.reduceToNat, Int.reduceEq, Int.reduceLT, Int.reduceLE, Int.reduceAdd, Int.reduceSub, Int.reduceMul, Int.reduceNeg]
    refine KL_ind (R := fun z => fin [] (M.frs fs e) z = some (.tup [], M'.frs fs (escMin e U))) (α := Nat × Mem × Option Nat) (fun a => hh.toNat - a.1) (fun a => [(0, .yld (.st D i)), (1, .ptr (.hp n 0) 0), (9, .int .i64 hh), (10, .int .i64 (a.1 : Int))]) (fun a => (a.2.1.frs fs e).fr [] a.2.2)
      (fun a => a.1 ≤ hh.toNat ∧ boxAt d n x y w hh a.2.1 ∧ Noted M.hl a.2.1 a.2.2 ∧ Rounds tb (.st D i) (boxAt d n x y w hh) M.hl (L.drop (a.1 * w.toNat)) a.2.1 a.2.2 M' U go) ?_ (0, M, none) ⟨Nat.zero_le _, hB, .inl rfl, by simpa using hR⟩
    rintro ⟨yy, m, u⟩ ⟨h1, h2, h3, h4⟩ ih
    dsimp only at h1 h2 h3 h4 ⊢
    simp (maxDischargeDepth := 8) only [go_sem, reduceIte, reduceCtorEq, Nat.reduceEqDiff, Nat.reduceAdd, Nat.reduceMul, Nat.reduceSub, Nat.reduceLeDiff, Nat.reduceLT, Nat.reduceBEq, Int.reduceToNat, Int.reduceEq, Int.reduceLT, Int.reduceLE, Int.reduceAdd, Int.reduceSub, Int.reduceMul, Int.reduceNeg, hD, h2.1, h2.2.1, hb h2]
    by_cases hy : yy < hh.toNat
    · simp (maxDischargeDepth := 8) only [go_sem, reduceIte, reduceCtorEq, Nat.reduceEqDiff, Nat.reduceAdd, Nat.reduceMul, Nat.reduceSub, Nat.reduceLeDiff, Nat.reduceLT, Nat.reduceBEq, Int.reduceToNat, Int.reduceEq, Int.reduceLT, Int.reduceLE, Int.reduceAdd, Int.reduceSub, Int.reduceMul, Int.reduceNeg, show decide ((yy : Int) < hh) = true from decide_eq_true (by omega), h2.1, h2.2.1, hb h2]
      rw [KL_keep _ _ _ (by simp (maxDischargeDepth := 8) only [go_sem, reduceIte, reduceCtorEq, Nat.reduceEqDiff, Nat.reduceAdd, Nat.reduceMul, Nat.reduceSub, Nat.reduceLeDiff, Nat.reduceLT, Nat.reduceBEq, Int.reduceToNat, Int.reduceEq, Int.reduceLT, Int.reduceLE, Int.reduceAdd, Int.reduceSub, Int.reduceMul, Int.reduceNeg, hD, h2.1])]
      simp (maxDischargeDepth := 8) only [go_sem, reduceIte, reduceCtorEq, Nat.reduceEqDiff, Nat.reduceAdd, Nat.reduceMul, Nat.reduceSub, Nat.reduceLeDiff, Nat.reduceLT, Nat.reduceBEq, Int.reduceToNat, Int.reduceEq, Int.reduceLT, Int.reduceLE, Int.reduceAdd, Int.reduceSub, Int.reduceMul, Int.reduceNeg]
      refine KL_ind (R := fun z => fin [] (M.frs fs e) z = some (.tup [], M'.frs fs (escMin e U))) (α := Nat × Mem × Option Nat) (fun a => w.toNat - a.1) (fun a => [(0, .yld (.st D i)), (1, .ptr (.hp n 0) 0), (3, .int .i64 (yy : Int)), (9, .int .i64 hh), (10, .int .i64 (yy : Int)), (14, .int .i64 w), (15, .int .i64 (a.1 : Int))]) (fun a => (a.2.1.frs fs e).fr [] a.2.2)
        (fun a => a.1 ≤ w.toNat ∧ boxAt d n x y w hh a.2.1 ∧ Noted M.hl a.2.1 a.2.2 ∧ Rounds tb (.st D i) (boxAt d n x y w hh) M.hl (L.drop (yy * w.toNat + a.1)) a.2.1 a.2.2 M' U go) ?_ (0, m, u) ⟨Nat.zero_le _, h2, h3, by simpa using h4⟩
      clear h2 h3 h4
      rintro ⟨xx, m, u⟩ ⟨h1', h2, h3, h4⟩ ih'
      dsimp only at h1' h2 h3 h4 ⊢
      simp (maxDischargeDepth := 8) only [go_sem, reduceIte, reduceCtorEq, Nat.reduceEqDiff, Nat.reduceAdd, Nat.reduceMul, Nat.reduceSub, Nat.reduceLeDiff, Nat.reduceLT, Nat.reduceBEq, Int.reduceToNat, Int.reduceEq, Int.reduceLT, Int.reduceLE, Int.reduceAdd, Int.reduceSub, Int.reduceMul, Int.reduceNeg, hD, h2.1, h2.2.1, hb h2]
      by_cases hx : xx < w.toNat
      · simp (maxDischargeDepth := 8) only [go_sem, reduceIte, reduceCtorEq, Nat.reduceEqDiff, Nat.reduceAdd, Nat.reduceMul, Nat.reduceSub, Nat.reduceLeDiff, Nat.reduceLT, Nat.reduceBEq, Int.reduceToNat, Int.reduceEq, Int.reduceLT, Int.reduceLE, Int.reduceAdd, Int.reduceSub, Int.reduceMul, Int.reduceNeg, show decide ((xx : Int) < w) = true from decide_eq_true (by omega), h2.1, h2.2.1, hb h2]
        have hwx : IntKind.wrap .i64 (x + (xx : Int)) = x + (xx : Int) := wrap_small (by omega) (by omega)
        have hwy : IntKind.wrap .i64 (y + (yy : Int)) = y + (yy : Int) := wrap_small (by omega) (by omega)
        have hw1 : IntKind.wrap .i64 ((xx : Int) + 1) = ((xx + 1 : Nat) : Int) := by rw [wrap_small (by omega) (by omega)]; rfl
        have hk1 : yy * w.toNat + xx < w.toNat * hh.toNat := by
          have : (yy + 1) * w.toNat ≤ hh.toNat * w.toNat := Nat.mul_le_mul_right _ (by omega)
          rw [Nat.add_mul] at this
          rw [Nat.mul_comm w.toNat]
          omega
        have hel : L.drop (yy * w.toNat + xx) = [.agg [.int .i64 (x + (xx : Int)), .int .i64 (y + (yy : Int))]] :: L.drop (yy * w.toNat + (xx + 1)) := by
          rw [List.drop_eq_getElem_cons (by rw [← hL]; simpa using hk1)]
          congr 1
          simp only [← hL, List.getElem_map, List.getElem_range]
          rw [Nat.mul_comm yy, Nat.mul_add_mod, Nat.mod_eq_of_lt hx, Nat.mul_add_div (by omega), Nat.div_eq_of_lt hx]
          rfl
        rw [hel] at h4
        rw [hwx, hwy]
        cases h4 with
        | stop hy hp hk => simp (maxDischargeDepth := 8) only [go_sem, reduceIte, reduceCtorEq, Nat.reduceEqDiff, Nat.reduceAdd, Nat.reduceMul, Nat.reduceSub, Nat.reduceLeDiff, Nat.reduceLT, Nat.reduceBEq, Int.reduceToNat, Int.reduceEq, Int.reduceLT, Int.reduceLE, Int.reduceAdd, Int.reduceSub, Int.reduceMul, Int.reduceNeg, yields_fr hy, back_rounds hk]
        | next hy hp hk t =>
          simp (maxDischargeDepth := 8) only [go_sem, reduceIte, reduceCtorEq, Nat.reduceEqDiff, Nat.reduceAdd, Nat.reduceMul, Nat.reduceSub, Nat.reduceLeDiff, Nat.reduceLT, Nat.reduceBEq, Int.reduceToNat, Int.reduceEq, Int.reduceLT, Int.reduceLE, Int.reduceAdd, Int.reduceSub, Int.reduceMul, Int.reduceNeg, yields_fr hy, hw1]
          rw [KL_keep _ _ _ (by simp (maxDischargeDepth := 8) only [go_sem, reduceIte, reduceCtorEq, Nat.reduceEqDiff, Nat.reduceAdd, Nat.reduceMul, Nat.reduceSub, Nat.reduceLeDiff, Nat.reduceLT, Nat.reduceBEq, Int.reduceToNat, Int.reduceEq, Int.reduceLT, Int.reduceLE, Int.reduceAdd, Int.reduceSub, Int.reduceMul, Int.reduceNeg, hD, hp.1])]
          simp (maxDischargeDepth := 8) only [go_sem, reduceIte, reduceCtorEq, Nat.reduceEqDiff, Nat.reduceAdd, Nat.reduceMul, Nat.reduceSub, Nat.reduceLeDiff, Nat.reduceLT, Nat.reduceBEq, Int.reduceToNat, Int.reduceEq, Int.reduceLT, Int.reduceLE, Int.reduceAdd, Int.reduceSub, Int.reduceMul, Int.reduceNeg]
          exact ih' (xx + 1, _, _) ⟨by omega, hp, hk, t⟩ (by dsimp only; omega)
      · obtain rfl : xx = w.toNat := by omega
        have hw1 : IntKind.wrap .i64 ((yy : Int) + 1) = ((yy + 1 : Nat) : Int) := by rw [wrap_small (by omega) (by omega)]; rfl
        simp (maxDischargeDepth := 8) only [go_sem, reduceIte, reduceCtorEq, Nat.reduceEqDiff, Nat.reduceAdd, Nat.reduceMul, Nat.reduceSub, Nat.reduceLeDiff, Nat.reduceLT, Nat.reduceBEq, Int.reduceToNat, Int.reduceEq, Int.reduceLT, Int.reduceLE, Int.reduceAdd, Int.reduceSub, Int.reduceMul, Int.reduceNeg, show decide (((w.toNat : Nat) : Int) < w) = false from decide_eq_false (by omega), h2.1, h2.2.1, hb h2, hw1]
        rw [KL_keep _ _ _ (by simp (maxDischargeDepth := 8) only [go_sem, reduceIte, reduceCtorEq, Nat.reduceEqDiff, Nat.reduceAdd, Nat.reduceMul, Nat.reduceSub, Nat.reduceLeDiff, Nat.reduceLT, Nat.reduceBEq, Int.reduceToNat, Int.reduceEq, Int.reduceLT, Int.reduceLE, Int.reduceAdd, Int.reduceSub, Int.reduceMul, Int.reduceNeg, hD, h2.1])]
        simp (maxDischargeDepth := 8) only [go_sem, reduceIte, reduceCtorEq, Nat.reduceEqDiff, Nat.reduceAdd, Nat.reduceMul, Nat.reduceSub, Nat.reduceLeDiff, Nat.reduceLT, Nat.reduceBEq, Int.reduceToNat, Int.reduceEq, Int.reduceLT, Int.reduceLE, Int.reduceAdd, Int.reduceSub, Int.reduceMul, Int.reduceNeg]
        exact ih (yy + 1, _, _) ⟨by omega, h2, h3, by dsimp only; rw [Nat.add_mul, Nat.one_mul]; exact h4⟩ (by dsimp only; omega)
    · obtain rfl : yy = hh.toNat := by omega
      have e1 : L.drop (hh.toNat * w.toNat) = [] := List.drop_eq_nil_of_le (by rw [← hL]; simp [Nat.mul_comm])
      rw [e1] at h4
      cases h4
      simp (maxDischargeDepth := 8) only [go_sem, reduceIte, reduceCtorEq, Nat.reduceEqDiff, Nat.reduceAdd, Nat.reduceMul, Nat.reduceSub, Nat.reduceLeDiff, Nat.reduceLT, Nat.reduceBEq, Int.reduceToNat, Int.reduceEq, Int.reduceLT, Int.reduceLE, Int.reduceAdd, Int.reduceSub, Int.reduceMul, Int.reduceNeg, show decide (((hh.toNat : Nat) : Int) < hh) = false from decide_eq_false (by omega), back_rounds h3]
theorem cellsL_get {x y w hh : Int} {i : Nat} {v : List SV} (h : (cellsL x y w hh)[i]? = some v) : mayB x y w hh = true ∧ i < w.toNat * hh.toNat ∧ v = [.agg [.int .i64 (x + ((i % w.toNat : Nat) : Int)), .int .i64 (y + ((i / w.toNat : Nat) : Int))]] := by
  unfold cellsL at h
  split at h
  · rename_i hm
    rw [List.getElem?_map] at h
    simp only [Option.map_eq_some_iff] at h
    obtain ⟨a, h1, h2⟩ := h
    rw [List.getElem?_eq_some_iff] at h1
    obtain ⟨h3, h4⟩ := h1
    simp at h3 h4
    subst h4
    exact ⟨hm, h3, h2.symm⟩
  · simp at h
theorem cellsL_len (x y w hh : Int) : (cellsL x y w hh).length = if mayB x y w hh then w.toNat * hh.toNat else 0 := by
  unfold cellsL; split <;> simp
theorem may_sides {x y w hh : Int} (h : mayB x y w hh = true) : (1 ≤ w ∧ w ≤ 1048576) ∧ (1 ≤ hh ∧ hh ≤ 1048576) := by simp [mayB, sideB] at h; omega
end Go.Sh.T
