import Derived.Test.YtjehijlpdeadiaaShWA2
set_option linter.all false
set_option linter.unusedVariables false
set_option linter.unusedSimpArgs false
set_option autoImplicit false
namespace Go.Sh.T
open Go.Sh
set_option maxHeartbeats 8000000
set_option maxRecDepth 20000
theorem clone_hx (h : Nat) (v : SV) (n z : Nat) (cs : List SV) : cloneL v n cs = [] ∨ ¬ (cloneV h v n z).hx ≤ h := by
  have no : ∀ w : SV, (w = (if n = 0 then SV.sl (.hp h 0) 0 0 (some 0) z else .sl (.hp (h + 1) 0) 0 n none z)) → ¬ w.hx ≤ h := by
    intro w hw
    subst hw
    split <;> simp only [SV.hx, hx_hp] <;> omega
  cases v <;> first | exact .inl rfl | exact .inr (no _ rfl)
theorem r_cache_Get_hit {m : Mem} (hm : m.Wf) {R : List (Nat × SBk)} {n ep o a b c d e g : Int} {v ord : SV} {l : List (Int × Int)} (hp : LiesD cellF (m.hap ((0, .map [(keyV a b c d e g, .agg [.int .i64 o, v])]) :: (0, .cells true [.int .i64 n, .int .i64 ep, .map (.hp m.hl 0), ord]) :: R)) v l) (hb : 2 * l.length * 16 ≤ two48) (f : List SBk) (es : Option Nat) :
    RF tb f_cache_Cache_Get [.ptr (.hp (m.hl + 1) 0) 0, keyV a b c d e g, .int .i64 ep] ((m.fr f es).hap ((0, .map [(keyV a b c d e g, .agg [.int .i64 o, v])]) :: (0, .cells true [.int .i64 n, .int .i64 ep, .map (.hp m.hl 0), ord]) :: R)) =
      some (.tup [.agg [.int .i64 o, cloneV (m.hl + (R.length + 1 + 1)) v l.length 2], .bool true], (m.fr f es).hap ((0, .map [(keyV a b c d e g, .agg [.int .i64 o, v])]) :: (0, .cells true [.int .i64 n, .int .i64 ep, .map (.hp m.hl 0), ord]) :: (R ++ cloneL v l.length (l.flatMap cellF.enc)))) := by
  rw [RF_go t_cache_Cache_Get _ _ rfl]
  simp (maxDischargeDepth := 8) only [go_sem, reduceIte, reduceCtorEq, Nat.reduceEqDiff, Nat.reduceAdd, Nat.reduceMul, Nat.reduceSub, Nat.reduceLeDiff, Nat.reduceLT, Nat.reduceBEq, Int.reduceToNat, Int.reduceEq, Int.reduceLT, Int.reduceLE, Int.reduceAdd, Int.reduceSub, Int.reduceMul, Int.reduceNeg, s_cache_Cache_Get, hm, hp.cell, fr_hb, r_cache_own hp hb, cells_clone, cell_clone, lv_clone, known_clone]
  rcases clone_hx (m.hl + (R.length + 1 + 1)) v l.length 2 (l.flatMap cellF.enc) with h | h
  · rw [h, List.append_nil, List.take_length]; split <;> rfl
  · rw [if_neg h]
theorem r_cache_Get_miss {m : Mem} (hm : m.Wf) {R : List (Nat × SBk)} {p : Nat × SBk} {n ep ep' a b c d e g : Int} {mp ord : SV} (hne : ep' ≠ ep) (f : List SBk) (es : Option Nat) :
    RF tb f_cache_Cache_Get [.ptr (.hp (m.hl + 1) 0) 0, keyV a b c d e g, .int .i64 ep'] ((m.fr f es).hap (p :: (0, .cells true [.int .i64 n, .int .i64 ep, mp, ord]) :: R)) =
      some (.tup [.agg [.int .i64 0, .nils], .bool false], (m.fr f es).hap (p :: (0, .cells true [.int .i64 n, .int .i64 ep, mp, ord]) :: R)) := by
  rw [RF_go t_cache_Cache_Get _ _ rfl]
  simp (maxDischargeDepth := 8) only [go_sem, reduceIte, reduceCtorEq, Nat.reduceEqDiff, Nat.reduceAdd, Nat.reduceMul, Nat.reduceSub, Nat.reduceLeDiff, Nat.reduceLT, Nat.reduceBEq, Int.reduceToNat, Int.reduceEq, Int.reduceLT, Int.reduceLE, Int.reduceAdd, Int.reduceSub, Int.reduceMul, Int.reduceNeg, s_cache_Cache_Get, hm, fr_hb, show (ep' != ep) = true from bne_iff_ne.2 hne, List.take_length]
theorem r_cache_Get_nil {X : Mem} (hw : X.Wf) (a b c d e g ep : Int) : RF tb f_cache_Cache_Get [.nilp, keyV a b c d e g, .int .i64 ep] X = some (.tup [.agg [.int .i64 0, .nils], .bool false], X) := by
  rw [RF_go t_cache_Cache_Get _ _ rfl]
  simp (maxDischargeDepth := 8) only [go_sem, reduceIte, reduceCtorEq, Nat.reduceEqDiff, Nat.reduceAdd, Nat.reduceMul, Nat.reduceSub, Nat.reduceLeDiff, Nat.reduceLT, Nat.reduceBEq, Int.reduceToNat, Int.reduceEq, Int.reduceLT, Int.reduceLE, Int.reduceAdd, Int.reduceSub, Int.reduceMul, Int.reduceNeg, s_cache_Cache_Get, hw]
theorem r_cache_Put_nil {X : Mem} (hw : X.Wf) (a b c d e g ep o : Int) : RF tb f_cache_Cache_Put [.nilp, keyV a b c d e g, .int .i64 ep, .agg [.int .i64 o, .nils]] X = some (.int .i64 1, X) := by
  rw [RF_go t_cache_Cache_Put _ _ rfl]
  simp (maxDischargeDepth := 8) only [go_sem, reduceIte, reduceCtorEq, Nat.reduceEqDiff, Nat.reduceAdd, Nat.reduceMul, Nat.reduceSub, Nat.reduceLeDiff, Nat.reduceLT, Nat.reduceBEq, Int.reduceToNat, Int.reduceEq, Int.reduceLT, Int.reduceLE, Int.reduceAdd, Int.reduceSub, Int.reduceMul, Int.reduceNeg, s_cache_Cache_Put, hw]
theorem r_cache_Len_nil {X : Mem} (hw : X.Wf) : RF tb f_cache_Cache_Len [.nilp] X = some (.int .i64 0, X) := by
  rw [RF_go t_cache_Cache_Len _ _ rfl]
  simp (maxDischargeDepth := 8) only [go_sem, reduceIte, reduceCtorEq, Nat.reduceEqDiff, Nat.reduceAdd, Nat.reduceMul, Nat.reduceSub, Nat.reduceLeDiff, Nat.reduceLT, Nat.reduceBEq, Int.reduceToNat, Int.reduceEq, Int.reduceLT, Int.reduceLE, Int.reduceAdd, Int.reduceSub, Int.reduceMul, Int.reduceNeg, s_cache_Cache_Len, hw]
abbrev zC : Nat × SBk := (0, .cells true [.int .i64 0, .int .i64 0, .nilm, .nils])
theorem r_cache_Get_zero {m : Mem} (hm : m.Wf) (a b c d e g : Int) (f : List SBk) (es : Option Nat) (L : List (Nat × SBk)) (j : Nat) (hL : L[j]? = some zC) : RF tb f_cache_Cache_Get [.ptr (.hp (m.hl + j) 0) 0, keyV a b c d e g, .int .i64 0] ((m.fr f es).hap L) = some (.tup [.agg [.int .i64 0, .nils], .bool false], (m.fr f es).hap L) := by
  rw [RF_go t_cache_Cache_Get _ _ rfl]
  have hz : ∀ {X : Mem} (hw : X.Wf), RF tb f_cache_own [.agg [.int .i64 0, .nils]] X = some (.agg [.int .i64 0, .nils], X) := fun {X} hw => by
    have := r_cache_own (LiesD.nil cellF X) (by decide) (hpsub_refl X) hw 0
    rw [this]
    simp only [cloneV, cloneL, hap_nil]
  simp (maxDischargeDepth := 8) only [go_sem, reduceIte, reduceCtorEq, Nat.reduceEqDiff, Nat.reduceAdd, Nat.reduceMul, Nat.reduceSub, Nat.reduceLeDiff, Nat.reduceLT, Nat.reduceBEq, Int.reduceToNat, Int.reduceEq, Int.reduceLT, Int.reduceLE, Int.reduceAdd, Int.reduceSub, Int.reduceMul, Int.reduceNeg, s_cache_Cache_Get, hm, hz, hL, List.take_length]
theorem r_cache_Put_zero {m : Mem} (hm : m.Wf) (a b c d e g ep o : Int) (f : List SBk) (es : Option Nat) (L : List (Nat × SBk)) (j : Nat) (hL : L[j]? = some zC) : RF tb f_cache_Cache_Put [.ptr (.hp (m.hl + j) 0) 0, keyV a b c d e g, .int .i64 ep, .agg [.int .i64 o, .nils]] ((m.fr f es).hap L) = some (.int .i64 1, (m.fr f es).hap L) := by
  rw [RF_go t_cache_Cache_Put _ _ rfl]
  simp (maxDischargeDepth := 8) only [go_sem, reduceIte, reduceCtorEq, Nat.reduceEqDiff, Nat.reduceAdd, Nat.reduceMul, Nat.reduceSub, Nat.reduceLeDiff, Nat.reduceLT, Nat.reduceBEq, Int.reduceToNat, Int.reduceEq, Int.reduceLT, Int.reduceLE, Int.reduceAdd, Int.reduceSub, Int.reduceMul, Int.reduceNeg, s_cache_Cache_Put, hm, hL, List.take_length]
theorem r_cache_Len_zero {m : Mem} (hm : m.Wf) (f : List SBk) (es : Option Nat) (L : List (Nat × SBk)) (j : Nat) (hL : L[j]? = some zC) : RF tb f_cache_Cache_Len [.ptr (.hp (m.hl + j) 0) 0] ((m.fr f es).hap L) = some (.int .i64 0, (m.fr f es).hap L) := by
  rw [RF_go t_cache_Cache_Len _ _ rfl]
  simp (maxDischargeDepth := 8) only [go_sem, reduceIte, reduceCtorEq, Nat.reduceEqDiff, Nat.reduceAdd, Nat.reduceMul, Nat.reduceSub, Nat.reduceLeDiff, Nat.reduceLT, Nat.reduceBEq, Int.reduceToNat, Int.reduceEq, Int.reduceLT, Int.reduceLE, Int.reduceAdd, Int.reduceSub, Int.reduceMul, Int.reduceNeg, s_cache_Cache_Len, hm, hL, List.take_length]
theorem r_law16_awake {m : Mem} (hm : m.Wf) (hhb : m.hb ≤ m.hl) : ∃ g e B, RF tb f_law16_awake [] m = some (.bool true, ((m.fr g e).hap B).back m 0) := by
  have hp : ∀ x y, LiesD cellF (m.hap (x :: y :: [(0, SBk.cells true [.int .i64 5, .int .i64 0])])) (.sl (.hp (m.hl + (1 + 1)) 0) 0 1 (some 1) 2) [(5, 0)] := fun x y =>
    ⟨rfl, .inr (.inr ⟨_, _, _, some 1, [.int .i64 5, .int .i64 0], true, rfl, by rw [get_hap m _ _ 0 rfl]; rfl, by decide, rfl⟩)⟩
  obtain ⟨ef, hput⟩ := r_cache_Put_new hm hhb (n := 2) (by decide) hp (by decide) 0 0 0 0 0 0 3 1
  have c1 : ∀ h b o c, cloneV h (.sl b o 1 c 2) 1 2 = .sl (.hp (h + 1) 0) 0 1 none 2 := fun _ _ _ _ => rfl
  have l1 : ∀ b o c, cloneL (.sl b o 1 c 2) 1 (([(5, 0)] : List (Int × Int)).flatMap cellF.enc) = [(0, .cells true []), (0, .cells true [.int .i64 5, .int .i64 0])] := fun _ _ _ => rfl
  simp (maxDischargeDepth := 8) only [go_sem, reduceIte, reduceCtorEq, Nat.reduceEqDiff, Nat.reduceAdd, Nat.reduceMul, Nat.reduceSub, Nat.reduceLeDiff, Nat.reduceLT, Nat.reduceBEq, Int.reduceToNat, Int.reduceEq, Int.reduceLT, Int.reduceLE, Int.reduceAdd, Int.reduceSub, Int.reduceMul, Int.reduceNeg, c1, l1] at hput
  have hv : LiesD cellF (m.hap ((0, .map [(keyV 0 0 0 0 0 0, .agg [.int .i64 1, .sl (.hp (m.hl + 6) 0) 0 1 none 2])]) :: (0, .cells true [.int .i64 2, .int .i64 3, .map (.hp m.hl 0), .sl (.hp (m.hl + 4) 0) 0 1 none 6]) :: [(0, .cells true [.int .i64 5, .int .i64 0]), (0, .cells true (keyC 0 0 0 0 0 0)), (0, .cells true (keyC 0 0 0 0 0 0)), (0, .cells true []), (0, .cells true [.int .i64 5, .int .i64 0])])) (.sl (.hp (m.hl + 6) 0) 0 1 none 2) [(5, 0)] :=
    ⟨rfl, .inr (.inr ⟨_, _, _, none, [.int .i64 5, .int .i64 0], true, rfl, by rw [get_hap m _ _ 0 rfl]; rfl, by decide, rfl⟩)⟩
  have hget := r_cache_Get_hit hm hv (by decide)
  simp (maxDischargeDepth := 8) only [go_sem, reduceIte, reduceCtorEq, Nat.reduceEqDiff, Nat.reduceAdd, Nat.reduceMul, Nat.reduceSub, Nat.reduceLeDiff, Nat.reduceLT, Nat.reduceBEq, Int.reduceToNat, Int.reduceEq, Int.reduceLT, Int.reduceLE, Int.reduceAdd, Int.reduceSub, Int.reduceMul, Int.reduceNeg, c1, l1] at hget
  have hmiss := fun f es R p mp ord => r_cache_Get_miss (m := m) hm (R := R) (p := p) (n := 2) (ep := 3) (ep' := 2) (a := 0) (b := 0) (c := 0) (d := 0) (e := 0) (g := 0) (mp := mp) (ord := ord) (by decide) f es
  refine ⟨[.cells true [.int .i64 1, .sl (.hp (m.hl + 8) 0) 0 1 none 2], .cells true [.int .i64 0, .nils]], ef none,
    [(0, .map [(keyV 0 0 0 0 0 0, .agg [.int .i64 1, .sl (.hp (m.hl + 6) 0) 0 1 none 2])]), (0, .cells true [.int .i64 2, .int .i64 3, .map (.hp m.hl 0), .sl (.hp (m.hl + 4) 0) 0 1 none 6]), (0, .cells true [.int .i64 5, .int .i64 0]), (0, .cells true (keyC 0 0 0 0 0 0)), (0, .cells true (keyC 0 0 0 0 0 0)), (0, .cells true []), (0, .cells true [.int .i64 5, .int .i64 0]), (0, .cells true []), (0, .cells true [.int .i64 5, .int .i64 0])], ?_⟩
  rw [RF_go t_law16_awake _ _ rfl]
  have hia : ∀ (b : Bk) (o : Nat) (c : Option Nat) (z : Nat) (M : Mem), iaddrV 2 (.sl b o 1 c z) (.int .i64 0) M = some (.ptr b o, M) := fun _ _ _ _ _ => rfl
  simp (maxDischargeDepth := 8) only [go_sem, reduceIte, reduceCtorEq, Nat.reduceEqDiff, Nat.reduceAdd, Nat.reduceMul, Nat.reduceSub, Nat.reduceLeDiff, Nat.reduceLT, Nat.reduceBEq, Int.reduceToNat, Int.reduceEq, Int.reduceLT, Int.reduceLE, Int.reduceAdd, Int.reduceSub, Int.reduceMul, Int.reduceNeg, s_law16_awake, hm, hhb, r_cache_New, hput, hget, hmiss, hia]
theorem back_any (m : Mem) (f g : List SBk) (e e' : Option Nat) (L B : List (Nat × SBk)) : ((((m.fr f e).hap L).fr g e').hap B).back ((m.fr f e).hap L) 0 = (m.fr f (escMin e e')).hap (if escOk (m.hl + L.length) e' then L else L ++ B) := by
  have e1 : ((m.fr f e).hap L).heap.length = m.hl + L.length := by simp [Mem.hap, Mem.hl, Mem.fr]
  have e2 : ((((m.fr f e).hap L).fr g e').hap B).heap = (m.heap ++ L) ++ B := rfl
  unfold Mem.back
  rw [e1, e2]
  have e3 : ((((m.fr f e).hap L).fr g e').hap B).esc = e' := rfl
  rw [e3]
  simp only [Nat.zero_le, true_and]
  split
  · simp only [Mem.hap, Mem.fr, List.tail_cons]
    congr 1
    rw [List.take_append_of_le_length (by simp [Mem.hl])]
    exact List.take_of_length_le (by simp [Mem.hl])
  · simp only [Mem.hap, Mem.fr, List.tail_cons, List.append_assoc]
theorem r_law16_awakeF {m : Mem} (hm : m.Wf) (hhb : m.hb ≤ m.hl) (f : List SBk) (es : Option Nat) (L : List (Nat × SBk)) : ∃ es' L', RF tb f_law16_awake [] ((m.fr f es).hap L) = some (.bool true, (m.fr f es').hap L') := by
  obtain ⟨g, e, B, h⟩ := r_law16_awake (m := (m.fr f es).hap L) (hap_wf (fr_wf hm f es) L) (by rw [hl_hap, hl_fr]; show m.hb ≤ _; omega)
  rw [back_any] at h
  exact ⟨_, _, h⟩
end Go.Sh.T
