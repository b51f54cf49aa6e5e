import Derived.Test.YtjehijlpdeadiaaShTabA
set_option linter.all false
set_option linter.unusedVariables false
set_option linter.unusedSimpArgs false
set_option autoImplicit false
namespace Go.Sh.T
open Go.Sh
set_option maxHeartbeats 4000000
set_option maxRecDepth 20000
/-- A copy: of nil, nil. -/
def cloneV (h : Nat) (v : SV) (n esz : Nat) : SV := match v with
  | .nils => .nils
  | _ => if n = 0 then .sl (.hp h 0) 0 0 (some 0) esz else .sl (.hp (h + 1) 0) 0 n none esz
def cloneL (v : SV) (n : Nat) (cs : List SV) : List (Nat × SBk) := match v with
  | .nils => []
  | _ => if n = 0 then [(0, .cells true [])] else [(0, .cells true []), (0, .cells true cs)]
theorem r_slices_Clone_api_Cell_api_Cell {m X : Mem} {v : SV} {l : List (Int × Int)} (hp : LiesD cellF m v l) (hb : 2 * l.length * 16 ≤ two48) (hX : HpSub m X) (hw : X.Wf) : RF tb f_slices_Clone_api_Cell_api_Cell [v] X = some (cloneV X.hl v l.length 2, X.hap (cloneL v l.length (l.flatMap cellF.enc))) := by
  have hp := hp.sub hX
  clear hX
  rw [RF_go t_slices_Clone_api_Cell_api_Cell _ _ rfl]
  have h0 : Lies ((X.fr [] none).hap [(0, .cells true [])]) 2 (.sl (.hp X.hl 0) 0 0 (some 0) 2) 0 [] :=
    ⟨rfl, .inr (.inr ⟨X.hl, 0, 0, some 0, [], true, rfl, by simp (maxDischargeDepth := 8) only [go_sem, reduceIte, reduceCtorEq, Nat.reduceEqDiff, Nat.reduceAdd, Nat.reduceMul, Nat.reduceSub, Nat.reduceLeDiff, Nat.reduceLT, Nat.reduceBEq, Int.reduceToNat, Int.reduceEq, Int.reduceLT, Int.reduceLE, Int.reduceAdd, Int.reduceSub, Int.reduceMul, Int.reduceNeg], by simp, rfl⟩)⟩
  have hp2 : Lies ((X.fr [] none).hap [(0, .cells true [])]) 2 v l.length (l.flatMap cellF.enc) := Lies.hap (Lies.inFr hp [] none) _
  have ha : ∀ aw, appV 2 16 [.int .i64 0, .int .i64 0] aw (.sl (.hp X.hl 0) 0 0 (some 0) 2) v ((X.fr [] none).hap [(0, .cells true [])]) =
      if l.length = 0 then some (.sl (.hp X.hl 0) 0 0 (some 0) 2, (X.fr [] none).hap [(0, .cells true [])]) else some (.sl (.hp (X.hl + 1) 0) 0 l.length none 2, (X.fr [] none).hap [(0, .cells true []), (0, .cells true (l.flatMap cellF.enc))]) := by
    intro aw
    by_cases hn : l.length = 0
    · rw [if_pos hn]
      have hl : l = [] := List.eq_nil_of_length_eq_zero hn
      subst hl
      exact app_none h0 hp2
    · rw [if_neg hn, app_new (.inr (.inr ⟨⟨_, _, _, rfl⟩, h0⟩)) hp2 (by omega) rfl (by omega) (cellF_ok l) (by simp only [two48] at *; omega) (by simpa using hb)]
      simp (maxDischargeDepth := 8) only [go_sem, reduceIte, reduceCtorEq, Nat.reduceEqDiff, Nat.reduceAdd, Nat.reduceMul, Nat.reduceSub, Nat.reduceLeDiff, Nat.reduceLT, Nat.reduceBEq, Int.reduceToNat, Int.reduceEq, Int.reduceLT, Int.reduceLE, Int.reduceAdd, Int.reduceSub, Int.reduceMul, Int.reduceNeg]
  rcases hp.2 with ⟨rfl, _⟩ | ⟨rfl, hn⟩ | ⟨k, w, off, cap, c, rw, rfl, _⟩
  · simp (maxDischargeDepth := 8) only [go_sem, reduceIte, reduceCtorEq, Nat.reduceEqDiff, Nat.reduceAdd, Nat.reduceMul, Nat.reduceSub, Nat.reduceLeDiff, Nat.reduceLT, Nat.reduceBEq, Int.reduceToNat, Int.reduceEq, Int.reduceLT, Int.reduceLE, Int.reduceAdd, Int.reduceSub, Int.reduceMul, Int.reduceNeg, s_slices_Clone_api_Cell_api_Cell, hw]
    simp only [cloneV, cloneL, hap_nil]
  · simp only [hn, if_true] at ha
    simp (maxDischargeDepth := 8) only [go_sem, reduceIte, reduceCtorEq, Nat.reduceEqDiff, Nat.reduceAdd, Nat.reduceMul, Nat.reduceSub, Nat.reduceLeDiff, Nat.reduceLT, Nat.reduceBEq, Int.reduceToNat, Int.reduceEq, Int.reduceLT, Int.reduceLE, Int.reduceAdd, Int.reduceSub, Int.reduceMul, Int.reduceNeg, s_slices_Clone_api_Cell_api_Cell, hw, ha, List.replicate, List.flatten_nil]
    simp only [cloneV, cloneL, hn, if_true]
  · by_cases hn : l.length = 0
    · simp only [hn, if_true] at ha ⊢
      simp (maxDischargeDepth := 8) only [go_sem, reduceIte, reduceCtorEq, Nat.reduceEqDiff, Nat.reduceAdd, Nat.reduceMul, Nat.reduceSub, Nat.reduceLeDiff, Nat.reduceLT, Nat.reduceBEq, Int.reduceToNat, Int.reduceEq, Int.reduceLT, Int.reduceLE, Int.reduceAdd, Int.reduceSub, Int.reduceMul, Int.reduceNeg, s_slices_Clone_api_Cell_api_Cell, hw, ha, hn]
      simp only [cloneV, cloneL, if_true]
    · simp only [if_neg hn] at ha
      simp (maxDischargeDepth := 8) only [go_sem, reduceIte, reduceCtorEq, Nat.reduceEqDiff, Nat.reduceAdd, Nat.reduceMul, Nat.reduceSub, Nat.reduceLeDiff, Nat.reduceLT, Nat.reduceBEq, Int.reduceToNat, Int.reduceEq, Int.reduceLT, Int.reduceLE, Int.reduceAdd, Int.reduceSub, Int.reduceMul, Int.reduceNeg, s_slices_Clone_api_Cell_api_Cell, hw, ha]
      simp only [cloneV, cloneL, if_neg hn]
theorem cloneL_lies {m : Mem} {v : SV} {l : List (Int × Int)} (hp : LiesD cellF m v l) : LiesD cellF (m.hap (cloneL v l.length (l.flatMap cellF.enc))) (cloneV m.hl v l.length 2) l := by
  have key : ∀ v' : SV, v' ≠ .nils → LiesD cellF (m.hap (if l.length = 0 then [(0, .cells true [])] else [(0, .cells true []), (0, .cells true (l.flatMap cellF.enc))])) (if l.length = 0 then .sl (.hp m.hl 0) 0 0 (some 0) 2 else .sl (.hp (m.hl + 1) 0) 0 l.length none 2) l := by
    intro v' _
    by_cases hn : l.length = 0
    · rw [if_pos hn, if_pos hn]
      have hl : l = [] := List.eq_nil_of_length_eq_zero hn
      subst hl
      exact ⟨rfl, .inr (.inr ⟨m.hl, 0, 0, some 0, [], true, rfl, by simp (maxDischargeDepth := 8) only [go_sem, reduceIte, reduceCtorEq, Nat.reduceEqDiff, Nat.reduceAdd, Nat.reduceMul, Nat.reduceSub, Nat.reduceLeDiff, Nat.reduceLT, Nat.reduceBEq, Int.reduceToNat, Int.reduceEq, Int.reduceLT, Int.reduceLE, Int.reduceAdd, Int.reduceSub, Int.reduceMul, Int.reduceNeg], by simp, rfl⟩)⟩
    · rw [if_neg hn, if_neg hn]
      have := lies_new (rw := true) hp.1 (m.hap [(0, .cells true [])])
      simp (maxDischargeDepth := 8) only [go_sem, reduceIte, reduceCtorEq, Nat.reduceEqDiff, Nat.reduceAdd, Nat.reduceMul, Nat.reduceSub, Nat.reduceLeDiff, Nat.reduceLT, Nat.reduceBEq, Int.reduceToNat, Int.reduceEq, Int.reduceLT, Int.reduceLE, Int.reduceAdd, Int.reduceSub, Int.reduceMul, Int.reduceNeg] at this
      exact this
  rcases hp.2 with ⟨rfl, h0⟩ | ⟨rfl, hn⟩ | ⟨k, w, off, cap, c, rw, rfl, _⟩
  · simp only [cloneV, cloneL, hap_nil]
    exact hp
  · exact key .emp (by simp)
  · exact key (.sl (.hp k w) off l.length cap cellF.sz) (by simp)
end Go.Sh.T
