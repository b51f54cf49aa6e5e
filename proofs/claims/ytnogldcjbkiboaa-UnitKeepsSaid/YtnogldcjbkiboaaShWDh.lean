import Derived.Test.YtnogldcjbkiboaaShWDe
set_option linter.all false
set_option linter.unusedVariables false
set_option linter.unusedSimpArgs false
set_option autoImplicit false
namespace Go.Sh.T
open Go.Sh
set_option maxHeartbeats 8000000
set_option maxRecDepth 20000
theorem ucells_drop {id pl cl sz : Int} : ∀ (us : List UR) (i : Nat) (u : UR), us[i]? = some u → ∃ r, (us.flatMap (UR.cells id pl cl sz)).drop (i * 11) = UR.cells id pl cl sz u ++ r
  | [], i, u, h => by simp at h
  | a :: us, 0, u, h => by simp at h; subst h; exact ⟨us.flatMap (UR.cells id pl cl sz), by simp⟩
  | a :: us, i + 1, u, h => by
    obtain ⟨r, hr⟩ := ucells_drop (id := id) (pl := pl) (cl := cl) (sz := sz) us i u (by simpa using h)
    refine ⟨r, ?_⟩
    rw [List.flatMap_cons, Nat.add_mul, Nat.one_mul, Nat.add_comm, ← List.drop_drop]
    rw [show (UR.cells id pl cl sz a ++ us.flatMap (UR.cells id pl cl sz)).drop 11 = us.flatMap (UR.cells id pl cl sz) from rfl]
    exact hr
theorem keeps_loop2 {m : Mem} {p : SV} (hm : m.Wf) (id pl cl sz ax ay ph gx gy wt tx ty : Int) (hpc : ∀ d i, SV.cell d i p = true) {j w : Nat} {L : List (Nat × SBk)} {us : List UR} (hu : UGood id pl cl sz m j w L us) (hn : us.length ≤ 100) (cap e : Option Nat) (i : Nat) (hi : i ≤ us.length) :
    Option.map Prod.fst (fin [SRes.t 6] m (KL tb [KI.block 3, KI.kp [], KI.seq ((SCode.region false [⟨some 159, .call f_law21_awake [], none, false⟩, ⟨some 6, .mv (.t 159), none, false⟩]).seq SCode.ret)] 2 (some [3, 7, 11]) s_law21_UnitKeeps_p22
      [(3, .ptr (.st m.dep 0) 0), (7, .sl (.hp (m.hl + j) w) 0 us.length cap 11), (11, .int .i64 (i : Int))]
      ((m.fr [.cells true [.int .i64 id, .int .i64 pl, .int .i64 cl, .int .i64 sz, .int .i64 ax, .int .i64 ay, .int .i64 ph, .int .i64 gx, .int .i64 gy, p, .int .i64 wt], .cells true [.int .i64 tx, .int .i64 ty]] e).hap L))) = some (.bool true) := by
  refine KL_ind (R := fun z => Option.map Prod.fst (fin [SRes.t 6] m z) = some (.bool true)) (fun i : Nat => us.length - i)
    (fun i => [(3, .ptr (.st m.dep 0) 0), (7, .sl (.hp (m.hl + j) w) 0 us.length cap 11), (11, .int .i64 (i : Int))])
    (fun i => (m.fr [.cells true [.int .i64 id, .int .i64 pl, .int .i64 cl, .int .i64 sz, .int .i64 ax, .int .i64 ay, .int .i64 ph, .int .i64 gx, .int .i64 gy, p, .int .i64 wt], .cells true [.int .i64 tx, .int .i64 ty]] e).hap L) (fun i => i ≤ us.length) ?_ i hi
  clear i hi
  intro i hi ih
  simp (maxDischargeDepth := 8) only [go_sem, reduceIte, reduceCtorEq, Nat.reduceEqDiff, Nat.reduceAdd, Nat.reduceMul, Nat.reduceSub, Nat.reduceLeDiff, Nat.reduceLT, Nat.reduceBEq, Int.reduceToNat, Int.reduceEq, Int.reduceLT, Int.reduceLE, Int.reduceAdd, Int.reduceSub, Int.reduceMul, Int.reduceNeg, hm]
  by_cases hlt : i < us.length
  · have hel : us[i]? = some us[i] := List.getElem?_eq_getElem hlt
    have hmem : us[i] ∈ us := List.getElem_mem hlt
    generalize us[i] = u at hel hmem
    obtain ⟨r, hr⟩ := ucells_drop (id := id) (pl := pl) (cl := cl) (sz := sz) us i u hel
    have hok := hu.2 u hmem
    have hv := hok.lies hu.1
    have hcl := ucells_len (id := id) (pl := pl) (cl := cl) (sz := sz) us
    have at1 : ∀ t, (us.flatMap (UR.cells id pl cl sz))[i * 11 + t]? = (UR.cells id pl cl sz u ++ r)[t]? := fun t => by rw [← hr, List.getElem?_drop]
    have p1 : (us.flatMap (UR.cells id pl cl sz))[i * 11]? = some (.int .i64 id) := (at1 0).trans rfl
    have p2 : (us.flatMap (UR.cells id pl cl sz))[i * 11 + 1]? = some (.int .i64 pl) := (at1 1).trans rfl
    have p3 : (us.flatMap (UR.cells id pl cl sz)).drop (i * 11 + 2) = .int .i64 cl :: .int .i64 sz :: ((UR.cells id pl cl sz u ++ r).drop 4) := by
      rw [← List.drop_drop, hr]; rfl
    have l1 : (i * 11 + 11 ≤ (us.flatMap (UR.cells id pl cl sz)).length) = True := eq_true (by omega)
    have l2 : (i * 11 + 2 + 2 ≤ (us.flatMap (UR.cells id pl cl sz)).length) = True := eq_true (by omega)
    have hget := hu.1
    generalize us.flatMap (UR.cells id pl cl sz) = cs at hr p1 p2 p3 l1 l2 hget
    simp (maxDischargeDepth := 8) only [go_sem, reduceIte, reduceCtorEq, Nat.reduceEqDiff, Nat.reduceAdd, Nat.reduceMul, Nat.reduceSub, Nat.reduceLeDiff, Nat.reduceLT, Nat.reduceBEq, Int.reduceToNat, Int.reduceEq, Int.reduceLT, Int.reduceLE, Int.reduceAdd, Int.reduceSub, Int.reduceMul, Int.reduceNeg, UR.cells] at hr
    have hw2 : IntKind.wrap .i64 ((i : Int) + 1) = ((i + 1 : Nat) : Int) := by rw [wrap_small (by omega) (by omega)]; rfl
    simp (maxDischargeDepth := 8) only [go_sem, reduceIte, reduceCtorEq, Nat.reduceEqDiff, Nat.reduceAdd, Nat.reduceMul, Nat.reduceSub, Nat.reduceLeDiff, Nat.reduceLT, Nat.reduceBEq, Int.reduceToNat, Int.reduceEq, Int.reduceLT, Int.reduceLE, Int.reduceAdd, Int.reduceSub, Int.reduceMul, Int.reduceNeg, show decide ((i : Int) < (us.length : Int)) = true from decide_eq_true (by omega), hm, iaddrV_sl, inB_nat hlt, hget, hr, p1, p2, p3, l1, l2, r_ref21_May hv hok.2.1, hok.2.2, hpc]
    simp (maxDischargeDepth := 8) only [go_sem, reduceIte, reduceCtorEq, Nat.reduceEqDiff, Nat.reduceAdd, Nat.reduceMul, Nat.reduceSub, Nat.reduceLeDiff, Nat.reduceLT, Nat.reduceBEq, Int.reduceToNat, Int.reduceEq, Int.reduceLT, Int.reduceLE, Int.reduceAdd, Int.reduceSub, Int.reduceMul, Int.reduceNeg, hw2]
    rw [KL_keep _ _ _ (by simp (maxDischargeDepth := 8) only [go_sem, reduceIte, reduceCtorEq, Nat.reduceEqDiff, Nat.reduceAdd, Nat.reduceMul, Nat.reduceSub, Nat.reduceLeDiff, Nat.reduceLT, Nat.reduceBEq, Int.reduceToNat, Int.reduceEq, Int.reduceLT, Int.reduceLE, Int.reduceAdd, Int.reduceSub, Int.reduceMul, Int.reduceNeg])]
    simp (maxDischargeDepth := 8) only [go_sem, reduceIte, reduceCtorEq, Nat.reduceEqDiff, Nat.reduceAdd, Nat.reduceMul, Nat.reduceSub, Nat.reduceLeDiff, Nat.reduceLT, Nat.reduceBEq, Int.reduceToNat, Int.reduceEq, Int.reduceLT, Int.reduceLE, Int.reduceAdd, Int.reduceSub, Int.reduceMul, Int.reduceNeg]
    exact ih (i + 1) (by omega) (by omega)
  · obtain rfl : i = us.length := by omega
    simp (maxDischargeDepth := 8) only [go_sem, reduceIte, reduceCtorEq, Nat.reduceEqDiff, Nat.reduceAdd, Nat.reduceMul, Nat.reduceSub, Nat.reduceLeDiff, Nat.reduceLT, Nat.reduceBEq, Int.reduceToNat, Int.reduceEq, Int.reduceLT, Int.reduceLE, Int.reduceAdd, Int.reduceSub, Int.reduceMul, Int.reduceNeg, show decide ((us.length : Int) < (us.length : Int)) = false from decide_eq_false (by omega), hm, r_law21_awake]
end Go.Sh.T
