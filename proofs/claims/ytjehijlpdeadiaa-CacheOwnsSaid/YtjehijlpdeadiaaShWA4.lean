import Derived.Test.YtjehijlpdeadiaaShWA3
set_option linter.all false
set_option linter.unusedVariables false
set_option linter.unusedSimpArgs false
set_option autoImplicit false
namespace Go.Sh.T
open Go.Sh
set_option maxHeartbeats 8000000
set_option maxRecDepth 20000
theorem wrap_small {x : Int} (h1 : -9223372036854775808 ≤ x) (h2 : x ≤ 9223372036854775807) : IntKind.wrap .i64 x = x := by
  simp only [IntKind.wrap, IntKind.bits, IntKind.signed]
  simp
  omega
theorem r_cache_All {X : Mem} (hw : X.Wf) (z : SV) (hz : ∀ d i, SV.cell d i z = true) (hc : z.cells = [z]) (hk : z.known = true) : RF tb f_cache_Cache_All [z] X = some (.fn f_cache_Cache_All_1 [] [.ptr (.hp X.hl 0) 0], X.hap [(0, .cells true [z])]) := by
  rw [RF_go t_cache_Cache_All _ _ rfl]
  simp (maxDischargeDepth := 8) only [go_sem, reduceIte, reduceCtorEq, Nat.reduceEqDiff, Nat.reduceAdd, Nat.reduceMul, Nat.reduceSub, Nat.reduceLeDiff, Nat.reduceLT, Nat.reduceBEq, Int.reduceToNat, Int.reduceEq, Int.reduceLT, Int.reduceLE, Int.reduceAdd, Int.reduceSub, Int.reduceMul, Int.reduceNeg, s_cache_Cache_All, hw, hz, hc, hk]
theorem r_All_1_nil {X : Mem} (hw : X.Wf) (k : Nat) (h : X.load (.hp k 0) 0 none = some .nilp) (b : Bk) : RF tb f_cache_Cache_All_1 [.yld b, .ptr (.hp k 0) 0] X = some (.tup [], X) := by
  rw [RF_go t_cache_Cache_All_1 _ _ rfl]
  simp (maxDischargeDepth := 8) only [go_sem, reduceIte, reduceCtorEq, Nat.reduceEqDiff, Nat.reduceAdd, Nat.reduceMul, Nat.reduceSub, Nat.reduceLeDiff, Nat.reduceLT, Nat.reduceBEq, Int.reduceToNat, Int.reduceEq, Int.reduceLT, Int.reduceLE, Int.reduceAdd, Int.reduceSub, Int.reduceMul, Int.reduceNeg, s_cache_Cache_All_1, hw, show X.push.load (.hp k 0) 0 none = some .nilp from h, h]
theorem r_All_1_zero {X : Mem} (hw : X.Wf) (k z : Nat) (h : X.load (.hp k 0) 0 none = some (.ptr (.hp z 0) 0)) (h3 : X.load (.hp z 0) 3 none = some .nils) (b : Bk) (hb : Bk.lv X.dep 0 b = true) : RF tb f_cache_Cache_All_1 [.yld b, .ptr (.hp k 0) 0] X = some (.tup [], X) := by
  rw [RF_go t_cache_Cache_All_1 _ _ rfl]
  simp (maxDischargeDepth := 8) only [go_sem, reduceIte, reduceCtorEq, Nat.reduceEqDiff, Nat.reduceAdd, Nat.reduceMul, Nat.reduceSub, Nat.reduceLeDiff, Nat.reduceLT, Nat.reduceBEq, Int.reduceToNat, Int.reduceEq, Int.reduceLT, Int.reduceLE, Int.reduceAdd, Int.reduceSub, Int.reduceMul, Int.reduceNeg, s_cache_Cache_All_1, hw, h, h3]
  refine KL_indE (α := Unit) (fun _ => 0) (fun _ => [(0, .yld b), (1, .ptr (.hp k 0) 0), (10, .nils), (11, .i 0), (12, .int .i64 0)]) (fun _ => X.fr [] none) (fun _ => True) ?_ () trivial
  intro _ _ ih
  simp (maxDischargeDepth := 8) only [go_sem, reduceIte, reduceCtorEq, Nat.reduceEqDiff, Nat.reduceAdd, Nat.reduceMul, Nat.reduceSub, Nat.reduceLeDiff, Nat.reduceLT, Nat.reduceBEq, Int.reduceToNat, Int.reduceEq, Int.reduceLT, Int.reduceLE, Int.reduceAdd, Int.reduceSub, Int.reduceMul, Int.reduceNeg, hw, hb]
theorem r_law16_CacheNobody {m : Mem} (hm : m.Wf) (hhb : m.hb ≤ m.hl) (a b c d e g : Int) : (RF tb f_law16_CacheNobody [keyV a b c d e g] m).map Prod.fst = some (.bool true) := by
  rw [RF_go t_law16_CacheNobody _ _ rfl]
  obtain ⟨es, L, h1⟩ := r_law16_awakeF hm hhb [.cells true (keyC a b c d e g)] none []
  rw [hap_nil] at h1
  simp (maxDischargeDepth := 8) only [go_sem, reduceIte, reduceCtorEq, Nat.reduceEqDiff, Nat.reduceAdd, Nat.reduceMul, Nat.reduceSub, Nat.reduceLeDiff, Nat.reduceLT, Nat.reduceBEq, Int.reduceToNat, Int.reduceEq, Int.reduceLT, Int.reduceLE, Int.reduceAdd, Int.reduceSub, Int.reduceMul, Int.reduceNeg, s_law16_CacheNobody, hm, h1]
  rw [KL_keep _ _ _ (by simp (maxDischargeDepth := 8) only [go_sem, reduceIte, reduceCtorEq, Nat.reduceEqDiff, Nat.reduceAdd, Nat.reduceMul, Nat.reduceSub, Nat.reduceLeDiff, Nat.reduceLT, Nat.reduceBEq, Int.reduceToNat, Int.reduceEq, Int.reduceLT, Int.reduceLE, Int.reduceAdd, Int.reduceSub, Int.reduceMul, Int.reduceNeg])]
  simp (maxDischargeDepth := 8) only [go_sem, reduceIte, reduceCtorEq, Nat.reduceEqDiff, Nat.reduceAdd, Nat.reduceMul, Nat.reduceSub, Nat.reduceLeDiff, Nat.reduceLT, Nat.reduceBEq, Int.reduceToNat, Int.reduceEq, Int.reduceLT, Int.reduceLE, Int.reduceAdd, Int.reduceSub, Int.reduceMul, Int.reduceNeg]
  refine KL_ind (R := fun z => Option.map Prod.fst (fin [SRes.t 2] m z) = some (.bool true)) (fun s : Nat × Option Nat × List (Nat × SBk) => 2 - s.1)
    (fun s => [(1, .ptr (.st m.dep 0) 0), (3, .int .i64 (s.1 : Int))]) (fun s => (m.fr [.cells true (keyC a b c d e g)] s.2.1).hap s.2.2) (fun s => s.1 ≤ 2) ?_ (0, es, L) (Nat.zero_le _)
  rintro ⟨i, es, L⟩ hi ih
  dsimp only at hi ⊢
  simp (maxDischargeDepth := 8) only [go_sem, reduceIte, reduceCtorEq, Nat.reduceEqDiff, Nat.reduceAdd, Nat.reduceMul, Nat.reduceSub, Nat.reduceLeDiff, Nat.reduceLT, Nat.reduceBEq, Int.reduceToNat, Int.reduceEq, Int.reduceLT, Int.reduceLE, Int.reduceAdd, Int.reduceSub, Int.reduceMul, Int.reduceNeg, hm]
  have hi3 : i = 0 ∨ i = 1 ∨ i = 2 := by omega
  have hw2 : IntKind.wrap .i64 ((i : Int) + 1) = ((i + 1 : Nat) : Int) := by rw [wrap_small (by omega) (by omega)]; rfl
  rcases hi3 with h | h | h
  · simp (maxDischargeDepth := 8) only [go_sem, reduceIte, reduceCtorEq, Nat.reduceEqDiff, Nat.reduceAdd, Nat.reduceMul, Nat.reduceSub, Nat.reduceLeDiff, Nat.reduceLT, Nat.reduceBEq, Int.reduceToNat, Int.reduceEq, Int.reduceLT, Int.reduceLE, Int.reduceAdd, Int.reduceSub, Int.reduceMul, Int.reduceNeg, show decide ((i : Int) < 2) = true from decide_eq_true (by omega), hm, show ((i : Int) == 1) = false from by subst h; rfl, fun {X : Mem} (hw : X.Wf) => r_cache_Put_nil hw a b c d e g 0 1, fun {X : Mem} (hw : X.Wf) => r_cache_Get_nil hw a b c d e g 0, fun {X : Mem} (hw : X.Wf) => r_cache_All hw .nilp cell_nilp cells_nilp known_nilp, r_All_1_nil, fun {X : Mem} (hw : X.Wf) => r_cache_Len_nil hw, hw2, List.getElem?_concat_length]
    rw [KL_keep _ _ _ (by simp (maxDischargeDepth := 8) only [go_sem, reduceIte, reduceCtorEq, Nat.reduceEqDiff, Nat.reduceAdd, Nat.reduceMul, Nat.reduceSub, Nat.reduceLeDiff, Nat.reduceLT, Nat.reduceBEq, Int.reduceToNat, Int.reduceEq, Int.reduceLT, Int.reduceLE, Int.reduceAdd, Int.reduceSub, Int.reduceMul, Int.reduceNeg])]
    simp (maxDischargeDepth := 8) only [go_sem, reduceIte, reduceCtorEq, Nat.reduceEqDiff, Nat.reduceAdd, Nat.reduceMul, Nat.reduceSub, Nat.reduceLeDiff, Nat.reduceLT, Nat.reduceBEq, Int.reduceToNat, Int.reduceEq, Int.reduceLT, Int.reduceLE, Int.reduceAdd, Int.reduceSub, Int.reduceMul, Int.reduceNeg]
    exact ih (i + 1, es, _) (by dsimp only; omega) (by dsimp only; omega)
  · have g1 : (L ++ [zC])[L.length]? = some zC := List.getElem?_concat_length
    have g2 : ∀ q, (L ++ [zC] ++ [q])[L.length]? = some zC := fun q => by simp
    have hl : (L ++ [zC]).length = L.length + 1 := by simp
    have g3 : ∀ q, (L ++ [zC] ++ [q])[L.length + 1]? = some q := fun q => by simp
    simp (maxDischargeDepth := 8) only [go_sem, reduceIte, reduceCtorEq, Nat.reduceEqDiff, Nat.reduceAdd, Nat.reduceMul, Nat.reduceSub, Nat.reduceLeDiff, Nat.reduceLT, Nat.reduceBEq, Int.reduceToNat, Int.reduceEq, Int.reduceLT, Int.reduceLE, Int.reduceAdd, Int.reduceSub, Int.reduceMul, Int.reduceNeg, show decide ((i : Int) < 2) = true from decide_eq_true (by omega), hm, show ((i : Int) == 1) = true from by subst h; rfl, hw2]
    have p1 := fun f es => r_cache_Put_zero hm a b c d e g 0 1 f es _ _ g1
    have p2 := fun f es => r_cache_Get_zero hm a b c d e g f es _ _ g1
    have p3 := fun f es q => r_cache_Len_zero hm f es _ _ (g2 q)
    have p4 := fun {X : Mem} (hw : X.Wf) => r_cache_All hw (.ptr (.hp (m.hl + L.length) 0) 0) (fun d i => by rw [cell_ptr]; rfl) (cells_ptr _ _) (known_ptr _ _)
    have p5 := fun {X : Mem} (hw : X.Wf) k => r_All_1_zero hw k (m.hl + L.length)
    simp (maxDischargeDepth := 8) only [go_sem, reduceIte, reduceCtorEq, Nat.reduceEqDiff, Nat.reduceAdd, Nat.reduceMul, Nat.reduceSub, Nat.reduceLeDiff, Nat.reduceLT, Nat.reduceBEq, Int.reduceToNat, Int.reduceEq, Int.reduceLT, Int.reduceLE, Int.reduceAdd, Int.reduceSub, Int.reduceMul, Int.reduceNeg, hm, p1, p2, p3, p4, p5, hw2, hl, g1, g2, g3]
    rw [KL_keep _ _ _ (by simp (maxDischargeDepth := 8) only [go_sem, reduceIte, reduceCtorEq, Nat.reduceEqDiff, Nat.reduceAdd, Nat.reduceMul, Nat.reduceSub, Nat.reduceLeDiff, Nat.reduceLT, Nat.reduceBEq, Int.reduceToNat, Int.reduceEq, Int.reduceLT, Int.reduceLE, Int.reduceAdd, Int.reduceSub, Int.reduceMul, Int.reduceNeg])]
    simp (maxDischargeDepth := 8) only [go_sem, reduceIte, reduceCtorEq, Nat.reduceEqDiff, Nat.reduceAdd, Nat.reduceMul, Nat.reduceSub, Nat.reduceLeDiff, Nat.reduceLT, Nat.reduceBEq, Int.reduceToNat, Int.reduceEq, Int.reduceLT, Int.reduceLE, Int.reduceAdd, Int.reduceSub, Int.reduceMul, Int.reduceNeg]
    exact ih (i + 1, es, _) (by dsimp only; omega) (by dsimp only; omega)
  · obtain ⟨es', L', h2⟩ := r_law16_awakeF hm hhb [.cells true (keyC a b c d e g)] es L
    simp (maxDischargeDepth := 8) only [go_sem, reduceIte, reduceCtorEq, Nat.reduceEqDiff, Nat.reduceAdd, Nat.reduceMul, Nat.reduceSub, Nat.reduceLeDiff, Nat.reduceLT, Nat.reduceBEq, Int.reduceToNat, Int.reduceEq, Int.reduceLT, Int.reduceLE, Int.reduceAdd, Int.reduceSub, Int.reduceMul, Int.reduceNeg, show decide ((i : Int) < 2) = false from decide_eq_false (by omega), hm, h2]
theorem law16_ex {x : Option (SV × Mem)} {v : SV} (h : x.map Prod.fst = some v) : ∃ m', x = some (v, m') := by
  cases x with
  | none => simp at h
  | some y => simp at h; exact ⟨y.2, by rw [← h]⟩
end Go.Sh.T
