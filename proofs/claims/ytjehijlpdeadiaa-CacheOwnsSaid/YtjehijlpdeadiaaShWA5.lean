import Derived.Test.YtjehijlpdeadiaaShWA4
set_option linter.all false
set_option linter.unusedVariables false
set_option linter.unusedSimpArgs false
set_option autoImplicit false
namespace Go.Sh.T
open Go.Sh
set_option maxHeartbeats 8000000
set_option maxRecDepth 20000
theorem r_ref10_Cells {m : Mem} {p q : SV} {l k : List (Int × Int)} (hp : LiesD cellF m p l) (hq : LiesD cellF m q k) (hb : 2 * l.length * 16 ≤ two48) {X : Mem} (hX : HpSub m X) (hw : X.Wf) (hlk : l = k) : RF tb f_ref10_Cells [p, q] X = some (.bool true, X) := by
  subst hlk
  rw [RF_go t_ref10_Cells _ _ rfl]
  simp (maxDischargeDepth := 8) only [go_sem, reduceIte, reduceCtorEq, Nat.reduceEqDiff, Nat.reduceAdd, Nat.reduceMul, Nat.reduceSub, Nat.reduceLeDiff, Nat.reduceLT, Nat.reduceBEq, Int.reduceToNat, Int.reduceEq, Int.reduceLT, Int.reduceLE, Int.reduceAdd, Int.reduceSub, Int.reduceMul, Int.reduceNeg, s_ref10_Cells, hw, hp.len, hq.len, show ((l.length : Int) != (l.length : Int)) = false from by simp]
  rw [KL_keep _ _ _ (by simp (maxDischargeDepth := 8) only [go_sem, reduceIte, reduceCtorEq, Nat.reduceEqDiff, Nat.reduceAdd, Nat.reduceMul, Nat.reduceSub, Nat.reduceLeDiff, Nat.reduceLT, Nat.reduceBEq, Int.reduceToNat, Int.reduceEq, Int.reduceLT, Int.reduceLE, Int.reduceAdd, Int.reduceSub, Int.reduceMul, Int.reduceNeg, hp.lv, hq.lv])]
  simp (maxDischargeDepth := 8) only [go_sem, reduceIte, reduceCtorEq, Nat.reduceEqDiff, Nat.reduceAdd, Nat.reduceMul, Nat.reduceSub, Nat.reduceLeDiff, Nat.reduceLT, Nat.reduceBEq, Int.reduceToNat, Int.reduceEq, Int.reduceLT, Int.reduceLE, Int.reduceAdd, Int.reduceSub, Int.reduceMul, Int.reduceNeg]
  refine KL_indE (α := Nat) (fun i => l.length - i) (fun i => [(0, p), (1, q), (5, .int .i64 (i : Int))]) (fun i => X.fr [] none) (fun i => i ≤ l.length) ?_ 0 (Nat.zero_le _)
  intro i hi ih
  simp (maxDischargeDepth := 8) only [go_sem, reduceIte, reduceCtorEq, Nat.reduceEqDiff, Nat.reduceAdd, Nat.reduceMul, Nat.reduceSub, Nat.reduceLeDiff, Nat.reduceLT, Nat.reduceBEq, Int.reduceToNat, Int.reduceEq, Int.reduceLT, Int.reduceLE, Int.reduceAdd, Int.reduceSub, Int.reduceMul, Int.reduceNeg, hw, hp.len, hp.lv, hq.lv]
  by_cases hlt : i < l.length
  · have hel : l[i]? = some l[i] := List.getElem?_eq_getElem hlt
    have hw2 : IntKind.wrap .i64 ((i : Int) + 1) = ((i + 1 : Nat) : Int) := by rw [wrap_small (by omega) (by simp only [two48] at hb; omega)]; rfl
    simp (maxDischargeDepth := 8) only [go_sem, reduceIte, reduceCtorEq, Nat.reduceEqDiff, Nat.reduceAdd, Nat.reduceMul, Nat.reduceSub, Nat.reduceLeDiff, Nat.reduceLT, Nat.reduceBEq, Int.reduceToNat, Int.reduceEq, Int.reduceLT, Int.reduceLE, Int.reduceAdd, Int.reduceSub, Int.reduceMul, Int.reduceNeg, show decide ((i : Int) < (l.length : Int)) = true from decide_eq_true (by omega), hw, hp.iaddrC hlt, hp.loadC hel, hq.iaddrC hlt, hq.loadC hel, hX, hw2]
    rw [KL_keep _ _ _ (by simp (maxDischargeDepth := 8) only [go_sem, reduceIte, reduceCtorEq, Nat.reduceEqDiff, Nat.reduceAdd, Nat.reduceMul, Nat.reduceSub, Nat.reduceLeDiff, Nat.reduceLT, Nat.reduceBEq, Int.reduceToNat, Int.reduceEq, Int.reduceLT, Int.reduceLE, Int.reduceAdd, Int.reduceSub, Int.reduceMul, Int.reduceNeg, hp.lv, hq.lv])]
    simp (maxDischargeDepth := 8) only [go_sem, reduceIte, reduceCtorEq, Nat.reduceEqDiff, Nat.reduceAdd, Nat.reduceMul, Nat.reduceSub, Nat.reduceLeDiff, Nat.reduceLT, Nat.reduceBEq, Int.reduceToNat, Int.reduceEq, Int.reduceLT, Int.reduceLE, Int.reduceAdd, Int.reduceSub, Int.reduceMul, Int.reduceNeg]
    exact ih (i + 1) (by omega) (by omega)
  · obtain rfl : i = l.length := by omega
    simp (maxDischargeDepth := 8) only [go_sem, reduceIte, reduceCtorEq, Nat.reduceEqDiff, Nat.reduceAdd, Nat.reduceMul, Nat.reduceSub, Nat.reduceLeDiff, Nat.reduceLT, Nat.reduceBEq, Int.reduceToNat, Int.reduceEq, Int.reduceLT, Int.reduceLE, Int.reduceAdd, Int.reduceSub, Int.reduceMul, Int.reduceNeg, show decide (((l.length : Nat) : Int) < (l.length : Int)) = false from decide_eq_false (by omega), hw]
/-- Cells that are numbers. -/
def Nums (n : Nat) (cs : List SV) : Prop := cs.length = 2 * n ∧ ∀ t, t < 2 * n → ∃ x, cs[t]? = some (.int .i64 x)
theorem nums_flat (l : List (Int × Int)) : Nums l.length (l.flatMap cellF.enc) := by
  refine ⟨by rw [flat_len cellF_even]; exact Nat.mul_comm _ _, fun t ht => ?_⟩
  induction l generalizing t with
  | nil => simp at ht
  | cons a r ih =>
    rw [List.flatMap_cons, cellF_enc]
    match t with
    | 0 => exact ⟨_, rfl⟩
    | 1 => exact ⟨_, rfl⟩
    | t + 2 =>
      obtain ⟨x, hx⟩ := ih t (by simp only [List.length_cons] at ht; omega)
      exact ⟨x, by simpa using hx⟩
theorem nums_set {n : Nat} {cs : List SV} (h : Nums n cs) {a : Nat} (ha : a < 2 * n) (x : Int) : Nums n (cs.take a ++ [.int .i64 x] ++ cs.drop (a + 1)) := by
  have e : cs.take a ++ [SV.int .i64 x] ++ cs.drop (a + 1) = cs.set a (.int .i64 x) := by
    rw [List.set_eq_take_append_cons_drop, if_pos (by rw [h.1]; exact ha)]
    simp
  rw [e]
  refine ⟨by rw [List.length_set]; exact h.1, fun t ht => ?_⟩
  rw [List.getElem?_set]
  split
  · rw [if_pos (by rw [h.1]; omega)]; exact ⟨x, rfl⟩
  · exact h.2 t ht
theorem liesN {m : Mem} {L : List (Nat × SBk)} {i : Nat} {k : List (Int × Int)} {rw : Bool} (h : hapGet L i 0 = some (.cells rw (k.flatMap cellF.enc))) : LiesD cellF (m.hap L) (.sl (.hp (m.hl + i) 0) 0 k.length none 2) k := by
  refine ⟨flat_len cellF_even k, .inr (.inr ⟨_, _, _, _, _, rw, rfl, (get_hap m L i 0 rfl).trans h, ?_, ?_⟩)⟩
  · rw [flat_len cellF_even]; omega
  · rw [List.drop_zero, ← flat_len cellF_even k, List.take_length]
theorem r_law16_CacheOwns {m : Mem} {q : SV} {l : List (Int × Int)} (hq : LiesD cellF m q l) (hb : 2 * l.length * 16 ≤ two48) (hm : m.Wf) (hhb : m.hb ≤ m.hl) (a b c d e g ep : Int) : (RF tb f_law16_CacheOwns [keyV a b c d e g, .int .i64 ep, q] m).map Prod.fst = some (.bool true) := by
  rw [RF_go t_law16_CacheOwns _ _ rfl]
  have happ : ∀ {Y : Mem} (hY : HpSub m Y) (aw : Bk → Bool) {h : Nat} (hh : h = Y.hl), appV 2 16 [.int .i64 0, .int .i64 0] aw (.sl (.hp (h + 2) 0) 0 0 (some 0) 2) q (Y.hap [(0, .map []), (0, .cells true [.int .i64 1, .int .i64 0, .map (.hp m.hl 0), .nils]), (0, .cells true [])]) = some (copyV (h + 2) l.length 2, Y.hap ([(0, .map []), (0, .cells true [.int .i64 1, .int .i64 0, .map (.hp m.hl 0), .nils])] ++ copyL l.length (l.flatMap cellF.enc))) := by
    intro Y hY aw h hh
    subst hh
    have := app_copyC hq hb (hpsub_hap hY [(0, .map []), (0, .cells true [.int .i64 1, .int .i64 0, .map (.hp m.hl 0), .nils])]) aw (h := Y.hl + 2) (by rw [hl_hap]; rfl)
    rw [hap_hap, hap_hap, hl_hap] at this
    exact this
  have hpR : ∀ x y, LiesD cellF (m.hap (x :: y :: copyL l.length (l.flatMap cellF.enc))) (copyV (m.hl + 2) l.length 2) l := fun x y => by
    have := copy_liesC l (m.hap [x, y])
    rw [hap_hap, hl_hap] at this
    exact this
  obtain ⟨ef, hput⟩ := r_cache_Put_new hm hhb (n := 1) (by decide) hpR hb a b c d e g ep 1
  by_cases hk : l = []
  · subst hk
    have cv : ∀ h, copyV h ([] : List (Int × Int)).length 2 = .sl (.hp h 0) 0 0 (some 0) 2 := fun _ => rfl
    have cl : copyL ([] : List (Int × Int)).length (([] : List (Int × Int)).flatMap cellF.enc) = [(0, .cells true [])] := rfl
    have cv1 : ∀ h b o c z, cloneV h (.sl b o 0 c z) ([] : List (Int × Int)).length 2 = .sl (.hp h 0) 0 0 (some 0) 2 := fun _ _ _ _ _ => rfl
    have cl1 : ∀ b o c z, cloneL (.sl b o 0 c z) ([] : List (Int × Int)).length (([] : List (Int × Int)).flatMap cellF.enc) = [(0, .cells true [])] := fun _ _ _ _ => rfl
    rw [cv, cl] at hput
    simp only [cv1, cl1] at hput
    simp (maxDischargeDepth := 8) only [go_sem, reduceIte, reduceCtorEq, Nat.reduceEqDiff, Nat.reduceAdd, Nat.reduceMul, Nat.reduceSub, Nat.reduceLeDiff, Nat.reduceLT, Nat.reduceBEq, Int.reduceToNat, Int.reduceEq, Int.reduceLT, Int.reduceLE, Int.reduceAdd, Int.reduceSub, Int.reduceMul, Int.reduceNeg] at hput
    have happ : ∀ {Y : Mem} (hY : HpSub m Y) (aw : Bk → Bool) {h : Nat} (hh : h = Y.hl), appV 2 16 [.int .i64 0, .int .i64 0] aw (.sl (.hp (h + 2) 0) 0 0 (some 0) 2) q (Y.hap [(0, .map []), (0, .cells true [.int .i64 1, .int .i64 0, .map (.hp m.hl 0), .nils]), (0, .cells true [])]) = some (.sl (.hp (h + 2) 0) 0 0 (some 0) 2, Y.hap [(0, .map []), (0, .cells true [.int .i64 1, .int .i64 0, .map (.hp m.hl 0), .nils]), (0, .cells true [])]) := fun {Y} hY aw {h} hh => happ hY aw hh
    simp (maxDischargeDepth := 8) only [go_sem, reduceIte, reduceCtorEq, Nat.reduceEqDiff, Nat.reduceAdd, Nat.reduceMul, Nat.reduceSub, Nat.reduceLeDiff, Nat.reduceLT, Nat.reduceBEq, Int.reduceToNat, Int.reduceEq, Int.reduceLT, Int.reduceLE, Int.reduceAdd, Int.reduceSub, Int.reduceMul, Int.reduceNeg, s_law16_CacheOwns, hm, hhb, r_cache_New, happ, hput]
    rw [KL_keep _ _ _ (by simp (maxDischargeDepth := 8) only [go_sem, reduceIte, reduceCtorEq, Nat.reduceEqDiff, Nat.reduceAdd, Nat.reduceMul, Nat.reduceSub, Nat.reduceLeDiff, Nat.reduceLT, Nat.reduceBEq, Int.reduceToNat, Int.reduceEq, Int.reduceLT, Int.reduceLE, Int.reduceAdd, Int.reduceSub, Int.reduceMul, Int.reduceNeg, hq.lv])]
    simp (maxDischargeDepth := 8) only [go_sem, reduceIte, reduceCtorEq, Nat.reduceEqDiff, Nat.reduceAdd, Nat.reduceMul, Nat.reduceSub, Nat.reduceLeDiff, Nat.reduceLT, Nat.reduceBEq, Int.reduceToNat, Int.reduceEq, Int.reduceLT, Int.reduceLE, Int.reduceAdd, Int.reduceSub, Int.reduceMul, Int.reduceNeg]
    refine KL_ind (R := fun z => Option.map Prod.fst (fin [SRes.t 6] m z) = some (.bool true)) (fun _ : Unit => 0)
      (fun _ => [(1, .int .i64 ep), (2, q), (3, .ptr (.st m.dep 0) 0), (7, .ptr (.hp (m.hl + 1) 0) 0), (9, .sl (.hp (m.hl + 2) 0) 0 0 (some 0) 2), (10, .int .i64 0)])
      (fun _ => (m.fr [.cells true (keyC a b c d e g)] (ef none)).hap ((0, .map [(keyV a b c d e g, .agg [.int .i64 1, .sl (.hp (m.hl + 5) 0) 0 0 (some 0) 2])]) :: (0, .cells true [.int .i64 1, .int .i64 ep, .map (.hp m.hl 0), .sl (.hp (m.hl + 4) 0) 0 1 none 6]) :: [(0, .cells true []), (0, .cells true (keyC a b c d e g)), (0, .cells true (keyC a b c d e g)), (0, .cells true [])])) (fun _ => True) ?_ () trivial
    intro _ _ ih
    clear ih
    have lz : ∀ {L : List (Nat × SBk)} {i : Nat}, hapGet L i 0 = some (.cells true []) → LiesD cellF (m.hap L) (.sl (.hp (m.hl + i) 0) 0 0 (some 0) 2) [] := fun {L i} h => ⟨rfl, .inr (.inr ⟨_, _, _, _, _, true, rfl, (get_hap m L i 0 rfl).trans h, by simp, by simp⟩)⟩
    have hv : LiesD cellF (m.hap ((0, .map [(keyV a b c d e g, .agg [.int .i64 1, .sl (.hp (m.hl + 5) 0) 0 0 (some 0) 2])]) :: (0, .cells true [.int .i64 1, .int .i64 ep, .map (.hp m.hl 0), .sl (.hp (m.hl + 4) 0) 0 1 none 6]) :: [(0, .cells true []), (0, .cells true (keyC a b c d e g)), (0, .cells true (keyC a b c d e g)), (0, .cells true [])])) (.sl (.hp (m.hl + 5) 0) 0 0 (some 0) 2) [] := lz (i := 5) rfl
    have hget := r_cache_Get_hit hm hv hb
    simp only [cv1, cl1] at hget
    simp (maxDischargeDepth := 8) only [go_sem, reduceIte, reduceCtorEq, Nat.reduceEqDiff, Nat.reduceAdd, Nat.reduceMul, Nat.reduceSub, Nat.reduceLeDiff, Nat.reduceLT, Nat.reduceBEq, Int.reduceToNat, Int.reduceEq, Int.reduceLT, Int.reduceLE, Int.reduceAdd, Int.reduceSub, Int.reduceMul, Int.reduceNeg] at hget
    have hw9 : LiesD cellF (m.hap ((0, .map [(keyV a b c d e g, .agg [.int .i64 1, .sl (.hp (m.hl + 5) 0) 0 0 (some 0) 2])]) :: (0, .cells true [.int .i64 1, .int .i64 ep, .map (.hp m.hl 0), .sl (.hp (m.hl + 4) 0) 0 1 none 6]) :: [(0, .cells true []), (0, .cells true (keyC a b c d e g)), (0, .cells true (keyC a b c d e g)), (0, .cells true []), (0, .cells true [])])) (.sl (.hp (m.hl + 6) 0) 0 0 (some 0) 2) [] := lz (i := 6) rfl
    have hc1 := fun {X : Mem} hX (hw : X.Wf) => r_ref10_Cells hw9 (LiesD.sub hq (hpsub_hap (hpsub_refl m) _)) hb (X := X) hX hw rfl
    simp (maxDischargeDepth := 8) only [go_sem, reduceIte, reduceCtorEq, Nat.reduceEqDiff, Nat.reduceAdd, Nat.reduceMul, Nat.reduceSub, Nat.reduceLeDiff, Nat.reduceLT, Nat.reduceBEq, Int.reduceToNat, Int.reduceEq, Int.reduceLT, Int.reduceLE, Int.reduceAdd, Int.reduceSub, Int.reduceMul, Int.reduceNeg, hm, hhb, hget, hc1, hq.lv]
    refine KL_ind (R := fun z => Option.map Prod.fst (fin [SRes.t 6] m z) = some (.bool true)) (fun _ : Unit => 0)
      (fun _ => [(1, .int .i64 ep), (2, q), (3, .ptr (.st m.dep 0) 0), (7, .ptr (.hp (m.hl + 1) 0) 0), (11, .ptr (.st m.dep 1) 0), (13, .int .i64 0)])
      (fun _ => (m.fr [.cells true (keyC a b c d e g), .cells true [.int .i64 1, .sl (.hp (m.hl + 6) 0) 0 0 (some 0) 2]] (ef none)).hap ((0, .map [(keyV a b c d e g, .agg [.int .i64 1, .sl (.hp (m.hl + 5) 0) 0 0 (some 0) 2])]) :: (0, .cells true [.int .i64 1, .int .i64 ep, .map (.hp m.hl 0), .sl (.hp (m.hl + 4) 0) 0 1 none 6]) :: [(0, .cells true []), (0, .cells true (keyC a b c d e g)), (0, .cells true (keyC a b c d e g)), (0, .cells true []), (0, .cells true [])])) (fun _ => True) ?_ () trivial
    intro _ _ ih
    clear ih hget hc1 hw9 hv
    have hv : LiesD cellF (m.hap ((0, .map [(keyV a b c d e g, .agg [.int .i64 1, .sl (.hp (m.hl + 5) 0) 0 0 (some 0) 2])]) :: (0, .cells true [.int .i64 1, .int .i64 ep, .map (.hp m.hl 0), .sl (.hp (m.hl + 4) 0) 0 1 none 6]) :: [(0, .cells true []), (0, .cells true (keyC a b c d e g)), (0, .cells true (keyC a b c d e g)), (0, .cells true []), (0, .cells true [])])) (.sl (.hp (m.hl + 5) 0) 0 0 (some 0) 2) [] := lz (i := 5) rfl
    have hget := r_cache_Get_hit hm hv hb
    simp only [cv1, cl1] at hget
    simp (maxDischargeDepth := 8) only [go_sem, reduceIte, reduceCtorEq, Nat.reduceEqDiff, Nat.reduceAdd, Nat.reduceMul, Nat.reduceSub, Nat.reduceLeDiff, Nat.reduceLT, Nat.reduceBEq, Int.reduceToNat, Int.reduceEq, Int.reduceLT, Int.reduceLE, Int.reduceAdd, Int.reduceSub, Int.reduceMul, Int.reduceNeg] at hget
    have hw9 : LiesD cellF (m.hap ((0, .map [(keyV a b c d e g, .agg [.int .i64 1, .sl (.hp (m.hl + 5) 0) 0 0 (some 0) 2])]) :: (0, .cells true [.int .i64 1, .int .i64 ep, .map (.hp m.hl 0), .sl (.hp (m.hl + 4) 0) 0 1 none 6]) :: [(0, .cells true []), (0, .cells true (keyC a b c d e g)), (0, .cells true (keyC a b c d e g)), (0, .cells true []), (0, .cells true []), (0, .cells true [])])) (.sl (.hp (m.hl + 7) 0) 0 0 (some 0) 2) [] := lz (i := 7) rfl
    have hc1 := fun {X : Mem} hX (hw : X.Wf) => r_ref10_Cells hw9 (LiesD.sub hq (hpsub_hap (hpsub_refl m) _)) hb (X := X) hX hw rfl
    obtain ⟨es', L', h2⟩ := r_law16_awakeF hm hhb [.cells true (keyC a b c d e g), .cells true [.int .i64 1, .sl (.hp (m.hl + 7) 0) 0 0 (some 0) 2]] (ef none) ((0, .map [(keyV a b c d e g, .agg [.int .i64 1, .sl (.hp (m.hl + 5) 0) 0 0 (some 0) 2])]) :: (0, .cells true [.int .i64 1, .int .i64 ep, .map (.hp m.hl 0), .sl (.hp (m.hl + 4) 0) 0 1 none 6]) :: [(0, .cells true []), (0, .cells true (keyC a b c d e g)), (0, .cells true (keyC a b c d e g)), (0, .cells true []), (0, .cells true []), (0, .cells true [])])
    simp (maxDischargeDepth := 8) only [go_sem, reduceIte, reduceCtorEq, Nat.reduceEqDiff, Nat.reduceAdd, Nat.reduceMul, Nat.reduceSub, Nat.reduceLeDiff, Nat.reduceLT, Nat.reduceBEq, Int.reduceToNat, Int.reduceEq, Int.reduceLT, Int.reduceLE, Int.reduceAdd, Int.reduceSub, Int.reduceMul, Int.reduceNeg, hm, hhb, hget, hc1, hq.lv, h2]
  · have hk0 : ¬ l.length = 0 := by simpa using hk
    have cv : ∀ h, copyV h l.length 2 = .sl (.hp (h + 1) 0) 0 l.length none 2 := fun h => if_neg hk0
    have cl : copyL l.length (l.flatMap cellF.enc) = [(0, .cells true []), (0, .cells true (l.flatMap cellF.enc))] := if_neg hk0
    have cv1 : ∀ h b o c z, cloneV h (.sl b o l.length c z) l.length 2 = .sl (.hp (h + 1) 0) 0 l.length none 2 := fun h b o c z => by simp only [cloneV]; exact if_neg hk0
    have cl1 : ∀ b o c z, cloneL (.sl b o l.length c z) l.length (l.flatMap cellF.enc) = [(0, .cells true []), (0, .cells true (l.flatMap cellF.enc))] := fun b o c z => by simp only [cloneL]; exact if_neg hk0
    simp (maxDischargeDepth := 8) only [go_sem, reduceIte, reduceCtorEq, Nat.reduceEqDiff, Nat.reduceAdd, Nat.reduceMul, Nat.reduceSub, Nat.reduceLeDiff, Nat.reduceLT, Nat.reduceBEq, Int.reduceToNat, Int.reduceEq, Int.reduceLT, Int.reduceLE, Int.reduceAdd, Int.reduceSub, Int.reduceMul, Int.reduceNeg, cv, cl, cv1, cl1] at hput
    simp (maxDischargeDepth := 8) only [go_sem, reduceIte, reduceCtorEq, Nat.reduceEqDiff, Nat.reduceAdd, Nat.reduceMul, Nat.reduceSub, Nat.reduceLeDiff, Nat.reduceLT, Nat.reduceBEq, Int.reduceToNat, Int.reduceEq, Int.reduceLT, Int.reduceLE, Int.reduceAdd, Int.reduceSub, Int.reduceMul, Int.reduceNeg, cv, cl] at happ
    simp (maxDischargeDepth := 8) only [go_sem, reduceIte, reduceCtorEq, Nat.reduceEqDiff, Nat.reduceAdd, Nat.reduceMul, Nat.reduceSub, Nat.reduceLeDiff, Nat.reduceLT, Nat.reduceBEq, Int.reduceToNat, Int.reduceEq, Int.reduceLT, Int.reduceLE, Int.reduceAdd, Int.reduceSub, Int.reduceMul, Int.reduceNeg, s_law16_CacheOwns, hm, hhb, r_cache_New, happ, hput]
    have hne : l.length ≠ 0 := hk0
    rw [KL_keep _ _ _ (by simp (maxDischargeDepth := 8) only [go_sem, reduceIte, reduceCtorEq, Nat.reduceEqDiff, Nat.reduceAdd, Nat.reduceMul, Nat.reduceSub, Nat.reduceLeDiff, Nat.reduceLT, Nat.reduceBEq, Int.reduceToNat, Int.reduceEq, Int.reduceLT, Int.reduceLE, Int.reduceAdd, Int.reduceSub, Int.reduceMul, Int.reduceNeg, hq.lv])]
    simp (maxDischargeDepth := 8) only [go_sem, reduceIte, reduceCtorEq, Nat.reduceEqDiff, Nat.reduceAdd, Nat.reduceMul, Nat.reduceSub, Nat.reduceLeDiff, Nat.reduceLT, Nat.reduceBEq, Int.reduceToNat, Int.reduceEq, Int.reduceLT, Int.reduceLE, Int.reduceAdd, Int.reduceSub, Int.reduceMul, Int.reduceNeg]
    refine KL_ind (R := fun z => Option.map Prod.fst (fin [SRes.t 6] m z) = some (.bool true)) (fun s : Nat × List SV => l.length - s.1)
      (fun s => [(1, .int .i64 ep), (2, q), (3, .ptr (.st m.dep 0) 0), (7, .ptr (.hp (m.hl + 1) 0) 0), (9, .sl (.hp (m.hl + 3) 0) 0 l.length none 2), (10, .int .i64 (s.1 : Int))])
      (fun s => (m.fr [.cells true (keyC a b c d e g)] (ef none)).hap ((0, .map [(keyV a b c d e g, .agg [.int .i64 1, .sl (.hp (m.hl + 7) 0) 0 l.length none 2])]) :: (0, .cells true [.int .i64 1, .int .i64 ep, .map (.hp m.hl 0), .sl (.hp (m.hl + 5) 0) 0 1 none 6]) :: [(0, .cells true []), (0, .cells true s.2), (0, .cells true (keyC a b c d e g)), (0, .cells true (keyC a b c d e g)), (0, .cells true []), (0, .cells true (l.flatMap cellF.enc))])) (fun s => s.1 ≤ l.length ∧ Nums l.length s.2) ?_ (0, l.flatMap cellF.enc) ⟨Nat.zero_le _, nums_flat l⟩
    rintro ⟨i, cs⟩ ⟨hi, hcs⟩ ih
    dsimp only at hi hcs ⊢
    simp (maxDischargeDepth := 8) only [go_sem, reduceIte, reduceCtorEq, Nat.reduceEqDiff, Nat.reduceAdd, Nat.reduceMul, Nat.reduceSub, Nat.reduceLeDiff, Nat.reduceLT, Nat.reduceBEq, Int.reduceToNat, Int.reduceEq, Int.reduceLT, Int.reduceLE, Int.reduceAdd, Int.reduceSub, Int.reduceMul, Int.reduceNeg, hm, hq.lv]
    by_cases hlt : i < l.length
    · have hw2 : IntKind.wrap .i64 ((i : Int) + 1) = ((i + 1 : Nat) : Int) := by rw [wrap_small (by omega) (by simp only [two48] at hb; omega)]; rfl
      obtain ⟨x, hx⟩ := hcs.2 (i * 2) (by omega)
      have hle : (i * 2 + 1 ≤ cs.length) = True := eq_true (by rw [hcs.1]; omega)
      simp (maxDischargeDepth := 8) only [go_sem, reduceIte, reduceCtorEq, Nat.reduceEqDiff, Nat.reduceAdd, Nat.reduceMul, Nat.reduceSub, Nat.reduceLeDiff, Nat.reduceLT, Nat.reduceBEq, Int.reduceToNat, Int.reduceEq, Int.reduceLT, Int.reduceLE, Int.reduceAdd, Int.reduceSub, Int.reduceMul, Int.reduceNeg, show decide ((i : Int) < (l.length : Int)) = true from decide_eq_true (by omega), hm, iaddrV_sl, inB_nat hlt, hhb, hx, hle, hw2]
      rw [KL_keep _ _ _ (by simp (maxDischargeDepth := 8) only [go_sem, reduceIte, reduceCtorEq, Nat.reduceEqDiff, Nat.reduceAdd, Nat.reduceMul, Nat.reduceSub, Nat.reduceLeDiff, Nat.reduceLT, Nat.reduceBEq, Int.reduceToNat, Int.reduceEq, Int.reduceLT, Int.reduceLE, Int.reduceAdd, Int.reduceSub, Int.reduceMul, Int.reduceNeg, hq.lv])]
      simp (maxDischargeDepth := 8) only [go_sem, reduceIte, reduceCtorEq, Nat.reduceEqDiff, Nat.reduceAdd, Nat.reduceMul, Nat.reduceSub, Nat.reduceLeDiff, Nat.reduceLT, Nat.reduceBEq, Int.reduceToNat, Int.reduceEq, Int.reduceLT, Int.reduceLE, Int.reduceAdd, Int.reduceSub, Int.reduceMul, Int.reduceNeg]
      exact ih (i + 1, _) ⟨by dsimp only; omega, nums_set hcs (a := i * 2) (by omega) _⟩ (by dsimp only; omega)
    · obtain rfl : i = l.length := by omega

      clear ih
      have hv : LiesD cellF (m.hap ((0, .map [(keyV a b c d e g, .agg [.int .i64 1, .sl (.hp (m.hl + 7) 0) 0 l.length none 2])]) :: (0, .cells true [.int .i64 1, .int .i64 ep, .map (.hp m.hl 0), .sl (.hp (m.hl + 5) 0) 0 1 none 6]) :: [(0, .cells true []), (0, .cells true cs), (0, .cells true (keyC a b c d e g)), (0, .cells true (keyC a b c d e g)), (0, .cells true []), (0, .cells true (l.flatMap cellF.enc))])) (.sl (.hp (m.hl + 7) 0) 0 l.length none 2) l := liesN (i := 7) rfl
      have hget := r_cache_Get_hit hm hv hb
      simp (maxDischargeDepth := 8) only [go_sem, reduceIte, reduceCtorEq, Nat.reduceEqDiff, Nat.reduceAdd, Nat.reduceMul, Nat.reduceSub, Nat.reduceLeDiff, Nat.reduceLT, Nat.reduceBEq, Int.reduceToNat, Int.reduceEq, Int.reduceLT, Int.reduceLE, Int.reduceAdd, Int.reduceSub, Int.reduceMul, Int.reduceNeg, cv1, cl1] at hget
      have hw9 : LiesD cellF (m.hap ((0, .map [(keyV a b c d e g, .agg [.int .i64 1, .sl (.hp (m.hl + 7) 0) 0 l.length none 2])]) :: (0, .cells true [.int .i64 1, .int .i64 ep, .map (.hp m.hl 0), .sl (.hp (m.hl + 5) 0) 0 1 none 6]) :: [(0, .cells true []), (0, .cells true cs), (0, .cells true (keyC a b c d e g)), (0, .cells true (keyC a b c d e g)), (0, .cells true []), (0, .cells true (l.flatMap cellF.enc)), (0, .cells true []), (0, .cells true (l.flatMap cellF.enc))])) (.sl (.hp (m.hl + 9) 0) 0 l.length none 2) l := liesN (i := 9) rfl
      have hc1 := fun {X : Mem} hX (hw : X.Wf) => r_ref10_Cells hw9 (LiesD.sub hq (hpsub_hap (hpsub_refl m) _)) hb (X := X) hX hw rfl
      simp (maxDischargeDepth := 8) only [go_sem, reduceIte, reduceCtorEq, Nat.reduceEqDiff, Nat.reduceAdd, Nat.reduceMul, Nat.reduceSub, Nat.reduceLeDiff, Nat.reduceLT, Nat.reduceBEq, Int.reduceToNat, Int.reduceEq, Int.reduceLT, Int.reduceLE, Int.reduceAdd, Int.reduceSub, Int.reduceMul, Int.reduceNeg, show decide (((l.length : Nat) : Int) < (l.length : Int)) = false from decide_eq_false (by omega), hm, hhb, hget, hc1, hq.lv]
      refine KL_ind (R := fun z => Option.map Prod.fst (fin [SRes.t 6] m z) = some (.bool true)) (fun s : Nat × List SV => l.length - s.1)
        (fun s => [(1, .int .i64 ep), (2, q), (3, .ptr (.st m.dep 0) 0), (7, .ptr (.hp (m.hl + 1) 0) 0), (11, .ptr (.st m.dep 1) 0), (13, .int .i64 (s.1 : Int))])
        (fun s => (m.fr [.cells true (keyC a b c d e g), .cells true [.int .i64 1, .sl (.hp (m.hl + 9) 0) 0 l.length none 2]] (ef none)).hap ((0, .map [(keyV a b c d e g, .agg [.int .i64 1, .sl (.hp (m.hl + 7) 0) 0 l.length none 2])]) :: (0, .cells true [.int .i64 1, .int .i64 ep, .map (.hp m.hl 0), .sl (.hp (m.hl + 5) 0) 0 1 none 6]) :: [(0, .cells true []), (0, .cells true cs), (0, .cells true (keyC a b c d e g)), (0, .cells true (keyC a b c d e g)), (0, .cells true []), (0, .cells true (l.flatMap cellF.enc)), (0, .cells true []), (0, .cells true s.2)])) (fun s => s.1 ≤ l.length ∧ Nums l.length s.2) ?_ (0, l.flatMap cellF.enc) ⟨Nat.zero_le _, nums_flat l⟩
      clear hget hc1 hw9 hv
      rintro ⟨i, cs2⟩ ⟨hi, hcs2⟩ ih
      dsimp only at hi hcs2 ⊢
      simp (maxDischargeDepth := 8) only [go_sem, reduceIte, reduceCtorEq, Nat.reduceEqDiff, Nat.reduceAdd, Nat.reduceMul, Nat.reduceSub, Nat.reduceLeDiff, Nat.reduceLT, Nat.reduceBEq, Int.reduceToNat, Int.reduceEq, Int.reduceLT, Int.reduceLE, Int.reduceAdd, Int.reduceSub, Int.reduceMul, Int.reduceNeg, hm, hq.lv]
      by_cases hlt : i < l.length
      · have hw2 : IntKind.wrap .i64 ((i : Int) + 1) = ((i + 1 : Nat) : Int) := by rw [wrap_small (by omega) (by simp only [two48] at hb; omega)]; rfl
        obtain ⟨x, hx⟩ := hcs2.2 (i * 2 + 1) (by omega)
        have hle : (i * 2 + 1 + 1 ≤ cs2.length) = True := eq_true (by rw [hcs2.1]; omega)
        simp (maxDischargeDepth := 8) only [go_sem, reduceIte, reduceCtorEq, Nat.reduceEqDiff, Nat.reduceAdd, Nat.reduceMul, Nat.reduceSub, Nat.reduceLeDiff, Nat.reduceLT, Nat.reduceBEq, Int.reduceToNat, Int.reduceEq, Int.reduceLT, Int.reduceLE, Int.reduceAdd, Int.reduceSub, Int.reduceMul, Int.reduceNeg, show decide ((i : Int) < (l.length : Int)) = true from decide_eq_true (by omega), hm, iaddrV_sl, inB_nat hlt, hhb, hx, hle, hw2]
        rw [KL_keep _ _ _ (by simp (maxDischargeDepth := 8) only [go_sem, reduceIte, reduceCtorEq, Nat.reduceEqDiff, Nat.reduceAdd, Nat.reduceMul, Nat.reduceSub, Nat.reduceLeDiff, Nat.reduceLT, Nat.reduceBEq, Int.reduceToNat, Int.reduceEq, Int.reduceLT, Int.reduceLE, Int.reduceAdd, Int.reduceSub, Int.reduceMul, Int.reduceNeg, hq.lv])]
        simp (maxDischargeDepth := 8) only [go_sem, reduceIte, reduceCtorEq, Nat.reduceEqDiff, Nat.reduceAdd, Nat.reduceMul, Nat.reduceSub, Nat.reduceLeDiff, Nat.reduceLT, Nat.reduceBEq, Int.reduceToNat, Int.reduceEq, Int.reduceLT, Int.reduceLE, Int.reduceAdd, Int.reduceSub, Int.reduceMul, Int.reduceNeg]
        exact ih (i + 1, _) ⟨by dsimp only; omega, nums_set hcs2 (a := i * 2 + 1) (by omega) _⟩ (by dsimp only; omega)
      · obtain rfl : i = l.length := by omega
        clear ih
        have hv : LiesD cellF (m.hap ((0, .map [(keyV a b c d e g, .agg [.int .i64 1, .sl (.hp (m.hl + 7) 0) 0 l.length none 2])]) :: (0, .cells true [.int .i64 1, .int .i64 ep, .map (.hp m.hl 0), .sl (.hp (m.hl + 5) 0) 0 1 none 6]) :: [(0, .cells true []), (0, .cells true cs), (0, .cells true (keyC a b c d e g)), (0, .cells true (keyC a b c d e g)), (0, .cells true []), (0, .cells true (l.flatMap cellF.enc)), (0, .cells true []), (0, .cells true cs2)])) (.sl (.hp (m.hl + 7) 0) 0 l.length none 2) l := liesN (i := 7) rfl
        have hget := r_cache_Get_hit hm hv hb
        simp (maxDischargeDepth := 8) only [go_sem, reduceIte, reduceCtorEq, Nat.reduceEqDiff, Nat.reduceAdd, Nat.reduceMul, Nat.reduceSub, Nat.reduceLeDiff, Nat.reduceLT, Nat.reduceBEq, Int.reduceToNat, Int.reduceEq, Int.reduceLT, Int.reduceLE, Int.reduceAdd, Int.reduceSub, Int.reduceMul, Int.reduceNeg, cv1, cl1] at hget
        have hw9 : LiesD cellF (m.hap ((0, .map [(keyV a b c d e g, .agg [.int .i64 1, .sl (.hp (m.hl + 7) 0) 0 l.length none 2])]) :: (0, .cells true [.int .i64 1, .int .i64 ep, .map (.hp m.hl 0), .sl (.hp (m.hl + 5) 0) 0 1 none 6]) :: [(0, .cells true []), (0, .cells true cs), (0, .cells true (keyC a b c d e g)), (0, .cells true (keyC a b c d e g)), (0, .cells true []), (0, .cells true (l.flatMap cellF.enc)), (0, .cells true []), (0, .cells true cs2), (0, .cells true []), (0, .cells true (l.flatMap cellF.enc))])) (.sl (.hp (m.hl + 11) 0) 0 l.length none 2) l := liesN (i := 11) rfl
        have hc1 := fun {X : Mem} hX (hw : X.Wf) => r_ref10_Cells hw9 (LiesD.sub hq (hpsub_hap (hpsub_refl m) _)) hb (X := X) hX hw rfl
        obtain ⟨es', L', h2⟩ := r_law16_awakeF hm hhb [.cells true (keyC a b c d e g), .cells true [.int .i64 1, .sl (.hp (m.hl + 11) 0) 0 l.length none 2]] (ef none) ((0, .map [(keyV a b c d e g, .agg [.int .i64 1, .sl (.hp (m.hl + 7) 0) 0 l.length none 2])]) :: (0, .cells true [.int .i64 1, .int .i64 ep, .map (.hp m.hl 0), .sl (.hp (m.hl + 5) 0) 0 1 none 6]) :: [(0, .cells true []), (0, .cells true cs), (0, .cells true (keyC a b c d e g)), (0, .cells true (keyC a b c d e g)), (0, .cells true []), (0, .cells true (l.flatMap cellF.enc)), (0, .cells true []), (0, .cells true cs2), (0, .cells true []), (0, .cells true (l.flatMap cellF.enc))])
        simp (maxDischargeDepth := 8) only [go_sem, reduceIte, reduceCtorEq, Nat.reduceEqDiff, Nat.reduceAdd, Nat.reduceMul, Nat.reduceSub, Nat.reduceLeDiff, Nat.reduceLT, Nat.reduceBEq, Int.reduceToNat, Int.reduceEq, Int.reduceLT, Int.reduceLE, Int.reduceAdd, Int.reduceSub, Int.reduceMul, Int.reduceNeg, show decide (((l.length : Nat) : Int) < (l.length : Int)) = false from decide_eq_false (by omega), hm, hhb, hget, hc1, hq.lv, h2]
end Go.Sh.T
