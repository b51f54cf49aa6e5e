import Derived.Test.YtjehijlpdeadiaaShWA1
set_option linter.all false
set_option linter.unusedVariables false
set_option linter.unusedSimpArgs false
set_option autoImplicit false
namespace Go.Sh.T
open Go.Sh
set_option maxHeartbeats 8000000
set_option maxRecDepth 20000
theorem cells_clone (h : Nat) (v : SV) (n z : Nat) : SV.cells (cloneV h v n z) = [cloneV h v n z] := by
  cases v <;> first | rfl | (simp only [cloneV]; split <;> rfl)
theorem cell_clone (d i h : Nat) (v : SV) (n z : Nat) : SV.cell d i (cloneV h v n z) = true := by
  cases v <;> first | rfl | (simp only [cloneV]; split <;> rfl)
theorem lv_clone (d i h : Nat) (v : SV) (n z : Nat) : SV.lv d i (cloneV h v n z) = true := by
  cases v <;> first | rfl | (simp only [cloneV]; split <;> rfl)
theorem clone_back (X : Mem) (v : SV) (n z : Nat) (cs : List SV) : (if (cloneV X.hl v n z).hx ≤ X.hl then X else X.hap (cloneL v n cs)) = X.hap (cloneL v n cs) := by
  have key : ∀ u, (u = .nils ∧ cloneV X.hl v n z = u ∧ cloneL v n cs = []) ∨ (¬ (cloneV X.hl v n z).hx ≤ X.hl) → (if (cloneV X.hl v n z).hx ≤ X.hl then X else X.hap (cloneL v n cs)) = X.hap (cloneL v n cs) := by
    intro u hu
    rcases hu with ⟨rfl, h1, h2⟩ | h
    · rw [h2, hap_nil]; split <;> rfl
    · rw [if_neg h]
  have no : ∀ w : SV, (w = (if n = 0 then SV.sl (.hp X.hl 0) 0 0 (some 0) z else .sl (.hp (X.hl + 1) 0) 0 n none z)) → ¬ w.hx ≤ X.hl := by
    intro w hw
    subst hw
    split <;> simp only [SV.hx, hx_hp] <;> omega
  cases v <;> first | exact key .nils (.inl ⟨rfl, rfl, rfl⟩) | exact key .nils (.inr (no _ rfl))
theorem known_clone (h : Nat) (v : SV) (n z : Nat) : SV.known (cloneV h v n z) = true := by
  cases v <;> first | rfl | (simp only [cloneV]; split <;> rfl)
theorem _root_.Go.Sh.LiesD.happ {α : Type} {d : Fl α} {m : Mem} {A : List (Nat × SBk)} {v : SV} {l : List α} (h : LiesD d (m.hap A) v l) (B : List (Nat × SBk)) : LiesD d (m.hap (A ++ B)) v l := by
  rw [← hap_hap]; exact Lies.hap h B
theorem r_cache_New (m : Mem) (hm : m.Wf) (n : Int) (h1 : 1 ≤ n) (h2 : n ≤ 256) : RF tb f_cache_New [.int .i64 n] m = some (.tup [.ptr (.hp (m.hl + 1) 0) 0, .int .i64 0], m.hap [(0, .map []), (0, .cells true [.int .i64 n, .int .i64 0, .map (.hp m.hl 0), .nils])]) := by
  rw [RF_go t_cache_New _ _ rfl]
  simp (maxDischargeDepth := 8) only [go_sem, reduceIte, reduceCtorEq, Nat.reduceEqDiff, Nat.reduceAdd, Nat.reduceMul, Nat.reduceSub, Nat.reduceLeDiff, Nat.reduceLT, Nat.reduceBEq, Int.reduceToNat, Int.reduceEq, Int.reduceLT, Int.reduceLE, Int.reduceAdd, Int.reduceSub, Int.reduceMul, Int.reduceNeg, s_cache_New, hm, show decide (n < 1) = false from decide_eq_false (by omega), show decide (n > 256) = false from decide_eq_false (by omega)]
theorem r_cache_own {m : Mem} {v : SV} {l : List (Int × Int)} (hp : LiesD cellF m v l) (hb : 2 * l.length * 16 ≤ two48) {X : Mem} (hX : HpSub m X) (hw : X.Wf) (o : Int) : RF tb f_cache_own [.agg [.int .i64 o, v]] X = some (.agg [.int .i64 o, cloneV X.hl v l.length 2], X.hap (cloneL v l.length (l.flatMap cellF.enc))) := by
  rw [RF_go t_cache_own _ _ rfl]
  simp (maxDischargeDepth := 8) only [go_sem, reduceIte, reduceCtorEq, Nat.reduceEqDiff, Nat.reduceAdd, Nat.reduceMul, Nat.reduceSub, Nat.reduceLeDiff, Nat.reduceLT, Nat.reduceBEq, Int.reduceToNat, Int.reduceEq, Int.reduceLT, Int.reduceLE, Int.reduceAdd, Int.reduceSub, Int.reduceMul, Int.reduceNeg, s_cache_own, hw, hp.cell, r_slices_Clone_api_Cell_api_Cell hp hb, hX, cells_clone, cell_clone, lv_clone, known_clone, clone_back]
abbrev keyV (a b c d e f : Int) : SV := .agg [.int .i64 a, .int .i64 b, .int .i64 c, .int .i64 d, .int .i64 e, .int .i64 f]
abbrev keyC (a b c d e f : Int) : List SV := [.int .i64 a, .int .i64 b, .int .i64 c, .int .i64 d, .int .i64 e, .int .i64 f]
theorem app_key (X : Mem) (p q : Nat × SBk) (R : List (Nat × SBk)) (a b c d e g : Int) (aw : Bk → Bool) {h : Nat} (hh : h = X.hl) : appV 6 48 [.int .i64 0, .int .i64 0, .int .i64 0, .int .i64 0, .int .i64 0, .int .i64 0] aw .nils (.sl (.hp (h + (R.length + 1 + 1)) 0) 0 1 (some 1) 6) (X.hap (p :: q :: (R ++ [(0, .cells true (keyC a b c d e g))]))) =
    some (.sl (.hp (h + (R.length + 1 + 1 + 1)) 0) 0 1 none 6, X.hap (p :: q :: (R ++ [(0, .cells true (keyC a b c d e g)), (0, .cells true (keyC a b c d e g))]))) := by
  subst hh
  have hy : Lies (X.hap (p :: q :: (R ++ [(0, .cells true (keyC a b c d e g))]))) 6 (.sl (.hp (X.hl + (R.length + 1 + 1)) 0) 0 1 (some 1) 6) 1 (keyC a b c d e g) := by
    refine ⟨rfl, .inr (.inr ⟨_, _, _, _, keyC a b c d e g, true, rfl, ?_, by simp, by simp⟩)⟩
    rw [get_hap X _ _ 0 rfl]; simp [hapGet]
  rw [app_new (.inl rfl) hy (by decide) rfl (by decide) rfl (by decide) (by decide), hl_hap, hap_hap]
  simp
theorem r_cache_Put_new {m : Mem} (hm : m.Wf) (hhb : m.hb ≤ m.hl) {R : List (Nat × SBk)} {n : Int} (h1 : 1 ≤ n) {v : SV} {l : List (Int × Int)} (hp : ∀ x y, LiesD cellF (m.hap (x :: y :: R)) v l) (hb : 2 * l.length * 16 ≤ two48) (a b c d e g ep o : Int) : ∃ ef : Option Nat → Option Nat, ∀ (f : List SBk) (es : Option Nat),
    RF tb f_cache_Cache_Put [.ptr (.hp (m.hl + 1) 0) 0, keyV a b c d e g, .int .i64 ep, .agg [.int .i64 o, v]] ((m.fr f es).hap ((0, .map []) :: (0, .cells true [.int .i64 n, .int .i64 0, .map (.hp m.hl 0), .nils]) :: R)) = 
      some (.int .i64 0, (m.fr f (ef es)).hap ((0, .map [(keyV a b c d e g, .agg [.int .i64 o, cloneV (m.hl + (R.length + 4)) v l.length 2])]) :: (0, .cells true [.int .i64 n, .int .i64 ep, .map (.hp m.hl 0), .sl (.hp (m.hl + (R.length + 3)) 0) 0 1 none 6]) :: (R ++ [(0, .cells true (keyC a b c d e g)), (0, .cells true (keyC a b c d e g))] ++ cloneL v l.length (l.flatMap cellF.enc)))) := by
  refine ⟨fun es => escMin es (if (cloneV (m.hl + (R.length + 4)) v l.length 2).hx ≤ m.hl then some (m.hl + 1) else some m.hl), fun f es => ?_⟩
  rw [RF_go t_cache_Cache_Put _ _ rfl]
  have hq := fun {X : Mem} x y B (hX : HpSub (m.hap (x :: y :: (R ++ B))) X) (hw : X.Wf) => r_cache_own ((hp x y).happ B) hb hX hw o
  simp (maxDischargeDepth := 8) only [go_sem, reduceIte, reduceCtorEq, Nat.reduceEqDiff, Nat.reduceAdd, Nat.reduceMul, Nat.reduceSub, Nat.reduceLeDiff, Nat.reduceLT, Nat.reduceBEq, Int.reduceToNat, Int.reduceEq, Int.reduceLT, Int.reduceLE, Int.reduceAdd, Int.reduceSub, Int.reduceMul, Int.reduceNeg, s_cache_Cache_Put, hm, hhb, show (n == 0) = false from beq_eq_false_iff_ne.2 (by omega), (hp (0, .map []) (0, .map [])).cell, fr_hb]
  have hc := (hp (0, .map []) (0, .map [])).cell
  have hq := fun {X : Mem} => hq (X := X) (0, .map []) (0, .cells true [.int .i64 n, .int .i64 ep, .map (.hp m.hl 0), .sl (.hp (m.hl + (R.length + 1 + 1 + 1)) 0) 0 1 none 6]) [(0, .cells true (keyC a b c d e g)), (0, .cells true (keyC a b c d e g))]
  have hle : (m.hl + (R.length + 1 + 1 + 1 + 1) ≤ m.hl + 1) = False := eq_false (by omega)
  have hn0 : ((0 : Int) == n) = false := beq_eq_false_iff_ne.2 (by omega)
  have fe : ∀ x : List (Nat × SBk), x ++ [] = x := List.append_nil
  have hlen : (R ++ [(0, SBk.cells true (keyC a b c d e g)), (0, .cells true (keyC a b c d e g))]).length + 1 + 1 = R.length + 4 := by simp
  have hesc : escMin (some (m.hl + 1)) (some m.hl) = some m.hl := by simp only [escMin]; congr 1; omega
  have hk : ∃ k, (if (cloneV (m.hl + (R.length + 4)) v l.length 2).hx ≤ m.hl then some (m.hl + 1) else some m.hl) = some k ∧ k < m.hl + ((0, SBk.map []) :: (0, SBk.cells true [SV.int .i64 n, .int .i64 0, .map (.hp m.hl 0), .nils]) :: R).length := by
    simp only [List.length_cons]
    split
    · exact ⟨_, rfl, by omega⟩
    · exact ⟨_, rfl, by omega⟩
  cases he : ep != 0 with
  | true =>
    simp (maxDischargeDepth := 8) only [go_sem, reduceIte, reduceCtorEq, Nat.reduceEqDiff, Nat.reduceAdd, Nat.reduceMul, Nat.reduceSub, Nat.reduceLeDiff, Nat.reduceLT, Nat.reduceBEq, Int.reduceToNat, Int.reduceEq, Int.reduceLT, Int.reduceLE, Int.reduceAdd, Int.reduceSub, Int.reduceMul, Int.reduceNeg, hm, hhb, fr_hb, hc, hn0, app_key, hq, hle, cells_clone, cell_clone, lv_clone, known_clone]
    rw [hlen, hesc, back_esc _ _ _ _ _ _ _ hk]
  | false =>
    obtain rfl : ep = 0 := by simpa using he
    simp (maxDischargeDepth := 8) only [go_sem, reduceIte, reduceCtorEq, Nat.reduceEqDiff, Nat.reduceAdd, Nat.reduceMul, Nat.reduceSub, Nat.reduceLeDiff, Nat.reduceLT, Nat.reduceBEq, Int.reduceToNat, Int.reduceEq, Int.reduceLT, Int.reduceLE, Int.reduceAdd, Int.reduceSub, Int.reduceMul, Int.reduceNeg, hm, hhb, fr_hb, hc, hn0, app_key, hq, hle, cells_clone, cell_clone, lv_clone, known_clone]
    rw [hlen, hesc, back_esc _ _ _ _ _ _ _ hk]
end Go.Sh.T
