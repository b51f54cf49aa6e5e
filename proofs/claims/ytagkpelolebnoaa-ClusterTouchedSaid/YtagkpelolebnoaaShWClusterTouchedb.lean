import Derived.Test.YtagkpelolebnoaaShWClusterToucheda
import Derived.Test.YtagkpelolebnoaaShArg
set_option linter.all false
set_option linter.unusedVariables false
set_option linter.unusedSimpArgs false
set_option autoImplicit false
namespace Go.Sh.T
open Go.Sh
set_option maxHeartbeats 8000000
set_option maxRecDepth 20000
/-- May something of cluster k turn by an edit of r? -/
def touB (r : Rc) (k : Int × Int) : Bool := decide (mxI 0 (r.1 - 3) / 8 - 1 ≤ k.1) && decide (k.1 ≤ (r.1 + r.2.2.1 - 1) / 8 + 1) && decide (mxI 0 (r.2.1 - 3) / 8 - 1 ≤ k.2) && decide (k.2 ≤ (r.2.1 + r.2.2.2 - 1) / 8 + 1)
def Wd.touL (W : Wd) (r : Rc) : List (Int × Int) := (cellsP 0 0 W.cw W.ch).filter (touB r)
def withR (r : Rc) (W : Wd) : Bool := withinB r.1 r.2.1 r.2.2.1 r.2.2.2 0 0 W.w W.h
theorem with_in {r : Rc} {W : Wd} (h1 : 1 ≤ W.w ∧ W.w ≤ 128) (h2 : 1 ≤ W.h ∧ W.h ≤ 128) (h : withR r W = true) : 0 ≤ r.1 ∧ 1 ≤ r.2.2.1 ∧ r.1 + r.2.2.1 ≤ W.w ∧ 0 ≤ r.2.1 ∧ 1 ≤ r.2.2.2 ∧ r.2.1 + r.2.2.2 ≤ W.h ∧ mayB r.1 r.2.1 r.2.2.1 r.2.2.2 = true := by
  simp only [withR, withinB, Bool.and_eq_true] at h
  obtain ⟨⟨h3, h4⟩, h5⟩ := h
  have l := may_last h3
  have s := may_sides h3
  rw [l.1, l.2] at h5
  have a := has_iff.1 h4
  have b := has_iff.1 h5
  refine ⟨?_, ?_, ?_, ?_, ?_, ?_, h3⟩ <;> omega
theorem filter_take {α : Type} {P : α → Bool} {l : List α} {k : Nat} {c : α} (h : l[k]? = some c) : (l.take (k + 1)).filter P = (l.take k).filter P ++ if P c then [c] else [] := by
  rw [List.take_add_one, h, List.filter_append]
  simp [List.filter_cons]
abbrev toM (X : Mem) (x y w h : Int) (a b c d : Int) (v : SV) (st : LoopState) (pd : Option Jump) (H : Hp) (k : Nat) (e : Option Nat) : Mem :=
  (X.hp H).fr [.cells true [.int .i64 x, .int .i64 y, .int .i64 w, .int .i64 h], .cells true [.int .i64 a, .int .i64 b], .cells true [.int .i64 c, .int .i64 d], .cells true [v],
    .loop ⟨st, pd, [(5, .ptr (.st X.dep 1) 0), (6, .ptr (.st X.dep 2) 0), (7, .ptr (.st X.dep 3) 0), (45, .fn f_cluster_All_1 [] [.ptr (.hp k 0) 0])], [46], s_cluster_Touched_p3, s_cluster_Touched_p6⟩] e
theorem r_cluster_Touched_no {m : Mem} {p : WP} {W : Wd} (hW : WorldAt m p W) {X : Mem} (hX : HpSub m X) (hw : X.Wf) (x y w hh : Int) (hn : withR (x, y, w, hh) W = false) : RF tb f_cluster_Touched [.ptr (.hp p.k 0) 0, rect x y w hh] X = some (.nils, X) := by
  rw [RF_go t_cluster_Touched _ _ rfl]
  have hn' : withinB x y w hh 0 0 W.w W.h = false := hn
  simp (maxDischargeDepth := 8) only [go_sem, reduceIte, reduceCtorEq, Nat.reduceEqDiff, Nat.reduceAdd, Nat.reduceMul, Nat.reduceSub, Nat.reduceLeDiff, Nat.reduceLT, Nat.reduceBEq, Int.reduceToNat, Int.reduceEq, Int.reduceLT, Int.reduceLE, Int.reduceAdd, Int.reduceSub, Int.reduceMul, Int.reduceNeg, s_cluster_Touched, hw, hX, rect, r_grid_World_All hW, r_cell_Within, hn']
theorem r_cluster_Touched {X : Mem} {p : WP} {W : Wd} (hO : WorldOwn X.heap p W) (hw : X.Wf) (hhb : X.hb ≤ X.hl) (x y w hh : Int) (hn : withR (x, y, w, hh) W = true) :
    ∃ v' H' u, RF tb f_cluster_Touched [.ptr (.hp p.k 0) 0, rect x y w hh] X = some (v', (X.hp H').es (escMin X.esc u)) ∧ Own cellF H' v' (W.touL (x, y, w, hh)) ∧ Keep [] X.heap H' := by
  rw [RF_go t_cluster_Touched _ _ rfl, push_hp]
  generalize hH : X.heap = H at *
  have hHl : X.hl = H.length := by rw [← hH]; rfl
  have w1 := hO.at_.w1
  have w2 := hO.at_.h1
  have hin := with_in w1 w2 hn
  have hn' : withinB x y w hh 0 0 W.w W.h = true := hn
  dsimp only at hin
  simp (maxDischargeDepth := 8) only [go_sem, reduceIte, reduceCtorEq, Nat.reduceEqDiff, Nat.reduceAdd, Nat.reduceMul, Nat.reduceSub, Nat.reduceLeDiff, Nat.reduceLT, Nat.reduceBEq, Int.reduceToNat, Int.reduceEq, Int.reduceLT, Int.reduceLE, Int.reduceAdd, Int.reduceSub, Int.reduceMul, Int.reduceNeg, s_cluster_Touched, hw, hH, rect, r_grid_World_All hO.at_, r_cell_Within, hn', wrap_small (x := x - 4) (by omega) (by omega), wrap_small (x := x - 3) (by omega) (by omega), wrap_small (x := y - 4) (by omega) (by omega), wrap_small (x := y - 3) (by omega) (by omega), r_cluster_Of, wrap_small (x := x + w) (by omega) (by omega), wrap_small (x := x + w - 1) (by omega) (by omega), wrap_small (x := y + hh) (by omega) (by omega), wrap_small (x := y + hh - 1) (by omega) (by omega), r_cluster_All, show x - 4 + 1 = x - 3 from by omega, show y - 4 + 1 = y - 3 from by omega]
  obtain ⟨HA, hHA⟩ : ∃ HA, H ++ [(0, SBk.cells true [.ptr (.hp p.k 0) 0])] = HA := ⟨_, rfl⟩
  have kA : Keep [] H HA := by rw [← hHA]; exact Keep.app _ _ _
  have lA : HA.length = H.length + 1 := by rw [← hHA, List.length_append]; rfl
  have a0 : hget HA H.length 0 = some (.cells true [.ptr (.hp p.k 0) 0]) := by rw [← hHA]; exact hget_new0 0 _
  have hOA := hO.keep kA (by simp)
  rw [hHA]
  obtain ⟨HB, hHB⟩ : ∃ HB, HA ++ [(0, SBk.cells true [.int .i64 0, .int .i64 0, .int .i64 W.cw, .int .i64 W.ch])] = HB := ⟨_, rfl⟩
  have kB : Keep [] HA HB := by rw [← hHB]; exact Keep.app _ _ _
  have lB : HB.length = HA.length + 1 := by rw [← hHB, List.length_append]; rfl
  have b4 : hget HB HA.length 0 = some (.cells true [.int .i64 0, .int .i64 0, .int .i64 W.cw, .int .i64 W.ch]) := by rw [← hHB]; exact hget_new0 0 _
  have hAl : ∀ Hk vv st pd e, Keep [] HB Hk → AlAt (X.dep + 1) H.length HA.length p W (toM X x y w hh (mxI 0 (x - 3) / 8) (mxI 0 (y - 3) / 8) ((x + w - 1) / 8) ((y + hh - 1) / 8) vv st pd Hk H.length e) := fun Hk vv st pd e k => ⟨rfl, by simp (maxDischargeDepth := 8) only [go_sem, reduceIte, reduceCtorEq, Nat.reduceEqDiff, Nat.reduceAdd, Nat.reduceMul, Nat.reduceSub, Nat.reduceLeDiff, Nat.reduceLT, Nat.reduceBEq, Int.reduceToNat, Int.reduceEq, Int.reduceLT, Int.reduceLE, Int.reduceAdd, Int.reduceSub, Int.reduceMul, Int.reduceNeg, hw], k.get (kB.get a0 (by simp)) (by simp), k.get b4 (by simp)⟩
  obtain ⟨hcm, hcl, hcg⟩ := clu_cells w1 w2
  have hcw : W.cw = (W.w - 1) / 8 + 1 := rfl
  have hch : W.ch = (W.h - 1) / 8 + 1 := rfl
  have hfew : W.cw.toNat * W.ch.toNat ≤ 16 * 16 := Nat.mul_le_mul (by omega) (by omega)
  generalize hz : RF tb f_cluster_All_1 _ _ = z
  refine all_rangeZ (d := X.dep + 1) (p := p) (W := W) hz (fun M1 k m v => ∃ Hk vv, m = toM X x y w hh (mxI 0 (x - 3) / 8) (mxI 0 (y - 3) / 8) ((x + w - 1) / 8) ((y + hh - 1) / 8) vv .ready none Hk H.length none ∧ Keep [] HB Hk ∧ Own cellF Hk vv (((cellsP 0 0 W.cw W.ch).take k).filter (touB (x, y, w, hh))) ∧ (∀ i ∈ slFp vv, HB.length ≤ i) ∧ ((v = none ∧ vv = .nils) ∨ v = some 0)) (fun _ _ _ _ => False) (Nat.lt_succ_self _) ?_ ?_ ?_ ?_ ?_ ?_
  · have := hAl HB .nils .ready none none (Keep.refl _ _)
    rw [toM, ← hHB] at this
    exact this
  · exact hOA.at_.sub (by simp (maxDischargeDepth := 8) only [go_sem, reduceIte, reduceCtorEq, Nat.reduceEqDiff, Nat.reduceAdd, Nat.reduceMul, Nat.reduceSub, Nat.reduceLeDiff, Nat.reduceLT, Nat.reduceBEq, Int.reduceToNat, Int.reduceEq, Int.reduceLT, Int.reduceLE, Int.reduceAdd, Int.reduceSub, Int.reduceMul, Int.reduceNeg])
  · show H.length < HA.length; omega
  · refine ⟨HB, .nils, by rw [toM, ← hHB]; rfl, Keep.refl _ _, Own.nil _, by simp [slFp], .inl ⟨rfl, rfl⟩⟩
  · rintro M1 k a b m v hk hA ⟨Hk, vv, hm, kk, ow, fp, hv⟩
    have hft := filter_take (P := touB (x, y, w, hh)) hk
    obtain ⟨hlt, -, -⟩ := hcg k a b hk
    have hsz : (((cellsP 0 0 W.cw W.ch).take k).filter (touB (x, y, w, hh))).length ≤ 256 := by
      have := List.length_filter_le (touB (x, y, w, hh)) ((cellsP 0 0 W.cw W.ch).take k)
      rw [List.length_take, hcl] at this
      omega
    have x1 := @mxI_le 0 (x - 3)
    have y1 := @mxI_le 0 (y - 3)
    have c1 : IntKind.wrap .i64 (mxI 0 (x - 3) / 8 - 1) = mxI 0 (x - 3) / 8 - 1 := wrap_small (by omega) (by omega)
    have c2 : IntKind.wrap .i64 (mxI 0 (y - 3) / 8 - 1) = mxI 0 (y - 3) / 8 - 1 := wrap_small (by omega) (by omega)
    have c3 : IntKind.wrap .i64 ((x + w - 1) / 8 + 1) = (x + w - 1) / 8 + 1 := wrap_small (by omega) (by omega)
    have c4 : IntKind.wrap .i64 ((y + hh - 1) / 8 + 1) = (y + hh - 1) / 8 + 1 := wrap_small (by omega) (by omega)
    have hkb : HA.length < Hk.length := by have := kk.1; omega
    by_cases ht : touB (x, y, w, hh) (a, b) = true
    · have ht' := ht
      simp only [touB, Bool.and_eq_true, decide_eq_true_eq] at ht'
      rw [if_pos ht] at hft
      have hy : LiesD cellF (Hm (Hk ++ [(0, .cells true [.int .i64 a, .int .i64 b])])) (.sl (.hp Hk.length 0) 0 1 (some 1) 2) [(a, b)] := (own_new cellF_even Hk [(a, b)] (some 1)).lies cellF_even
      obtain ⟨v', H2, ha, o1, o2, o3, ⟨o4, o5, o6⟩, o7⟩ := app_ownY cellF_even (by decide) cellF_ok hxs_cell (ow.keep (Keep.app [] Hk [(0, .cells true [.int .i64 a, .int .i64 b])]) (by simp)) hy (bytes := 16) (by simp only [List.length_singleton, two48]; omega) (by simp only [List.length_singleton, two48]; omega) X (fun i hi => by have := fp i hi; omega)
      have ha' := ha [.int .i64 0, .int .i64 0] rfl (fun _ => true) (ow.aw (fun _ _ => rfl))
      change ∀ Y : Mem, Y.heap = _ → Y.hb = X.hb → appV 2 16 _ _ _ _ Y = _ at ha'
      have k2 : Keep [] HB H2 := (kk.trans (Keep.app [] _ _)).trans' o2 (fun n hn hl => by have := fp n hn; omega)
      have hx0 := o1.hx0 (by simp)
      refine ⟨toM X x y w hh (mxI 0 (x - 3) / 8) (mxI 0 (y - 3) / 8) ((x + w - 1) / 8) ((y + hh - 1) / 8) v' .ready none H2 H.length none, some 0, true, ?_, hAl _ _ _ _ _ k2, .inr ⟨0, rfl, by show 0 < HA.length; omega⟩, fun _ => ⟨H2, v', rfl, k2, by rw [hft]; exact o1, fun i hi => ?_, .inr (by rcases hv with ⟨rfl, _⟩ | rfl <;> rfl)⟩, fun h => (by cases h)⟩
      · subst hm
        intro fs e
        rw [RV_go (l := ⟨.ready, none, _, _, _, _⟩) _ _ _ (by simp (maxDischargeDepth := 8) only [go_sem, reduceIte, reduceCtorEq, Nat.reduceEqDiff, Nat.reduceAdd, Nat.reduceMul, Nat.reduceSub, Nat.reduceLeDiff, Nat.reduceLT, Nat.reduceBEq, Int.reduceToNat, Int.reduceEq, Int.reduceLT, Int.reduceLE, Int.reduceAdd, Int.reduceSub, Int.reduceMul, Int.reduceNeg, toM]; rfl) rfl rfl (by simp (maxDischargeDepth := 8) only [go_sem, reduceIte, reduceCtorEq, Nat.reduceEqDiff, Nat.reduceAdd, Nat.reduceMul, Nat.reduceSub, Nat.reduceLeDiff, Nat.reduceLT, Nat.reduceBEq, Int.reduceToNat, Int.reduceEq, Int.reduceLT, Int.reduceLE, Int.reduceAdd, Int.reduceSub, Int.reduceMul, Int.reduceNeg, toM, hw])]
        simp (maxDischargeDepth := 8) only [go_sem, reduceIte, reduceCtorEq, Nat.reduceEqDiff, Nat.reduceAdd, Nat.reduceMul, Nat.reduceSub, Nat.reduceLeDiff, Nat.reduceLT, Nat.reduceBEq, Int.reduceToNat, Int.reduceEq, Int.reduceLT, Int.reduceLE, Int.reduceAdd, Int.reduceSub, Int.reduceMul, Int.reduceNeg, toM, hw, c1, c2, c3, c4, show decide (a ≥ mxI 0 (x - 3) / 8 - 1) = true from decide_eq_true ht'.1.1.1, show decide (a ≤ (x + w - 1) / 8 + 1) = true from decide_eq_true ht'.1.1.2, show decide (b ≥ mxI 0 (y - 3) / 8 - 1) = true from decide_eq_true ht'.1.2, show decide (b ≤ (y + hh - 1) / 8 + 1) = true from decide_eq_true ht'.2, ha', o4, o5, o6, hx0]
      · have := o3 i hi
        rw [List.length_append] at this
        rcases this with h | h
        · exact fp i h
        · have := kk.1; omega
    · rw [if_neg ht, List.append_nil] at hft
      refine ⟨m, none, true, ?_, hA, .inl rfl, fun _ => ⟨Hk, vv, hm, kk, by rw [hft]; exact ow, fp, by rw [escMin_none]; exact hv⟩, fun h => (by cases h)⟩
      subst hm
      intro fs e
      rw [RV_go (l := ⟨.ready, none, _, _, _, _⟩) _ _ _ (by simp (maxDischargeDepth := 8) only [go_sem, reduceIte, reduceCtorEq, Nat.reduceEqDiff, Nat.reduceAdd, Nat.reduceMul, Nat.reduceSub, Nat.reduceLeDiff, Nat.reduceLT, Nat.reduceBEq, Int.reduceToNat, Int.reduceEq, Int.reduceLT, Int.reduceLE, Int.reduceAdd, Int.reduceSub, Int.reduceMul, Int.reduceNeg, toM]; rfl) rfl rfl (by simp (maxDischargeDepth := 8) only [go_sem, reduceIte, reduceCtorEq, Nat.reduceEqDiff, Nat.reduceAdd, Nat.reduceMul, Nat.reduceSub, Nat.reduceLeDiff, Nat.reduceLT, Nat.reduceBEq, Int.reduceToNat, Int.reduceEq, Int.reduceLT, Int.reduceLE, Int.reduceAdd, Int.reduceSub, Int.reduceMul, Int.reduceNeg, toM, hw])]
      simp (maxDischargeDepth := 8) only [go_sem, reduceIte, reduceCtorEq, Nat.reduceEqDiff, Nat.reduceAdd, Nat.reduceMul, Nat.reduceSub, Nat.reduceLeDiff, Nat.reduceLT, Nat.reduceBEq, Int.reduceToNat, Int.reduceEq, Int.reduceLT, Int.reduceLE, Int.reduceAdd, Int.reduceSub, Int.reduceMul, Int.reduceNeg, toM, hw, c1, c2, c3, c4]
      simp only [touB, Bool.and_eq_true, decide_eq_true_eq, Bool.not_eq_true] at ht
      repeat' ((first | rw [KG_bool] | rw [KC_bool]); split <;> rename_i h <;> (try simp only [Bool.not_eq_true, Bool.not_not, Bool.not_eq_eq_eq_not, Bool.not_true, Bool.not_false] at h) <;> simp (maxDischargeDepth := 8) only [go_sem, reduceIte, reduceCtorEq, Nat.reduceEqDiff, Nat.reduceAdd, Nat.reduceMul, Nat.reduceSub, Nat.reduceLeDiff, Nat.reduceLT, Nat.reduceBEq, Int.reduceToNat, Int.reduceEq, Int.reduceLT, Int.reduceLE, Int.reduceAdd, Int.reduceSub, Int.reduceMul, Int.reduceNeg, h, hw, c1, c2, c3, c4])
      all_goals first | rfl | (exfalso; simp at *; omega)
  · rintro M1 M' U rfl hz' hA' hN (⟨Hk, vv, hm, kk, ow, fp, hv⟩ | ⟨_, h⟩)
    · subst hz' hm
      rw [List.take_length] at ow
      have s1 := ow.isSl cellF_even
      have kHk : Keep [] H Hk := kA.trans (kB.trans kk)
      rcases hv with ⟨rfl, rfl⟩ | rfl
      · have hnil : W.touL (x, y, w, hh) = [] := by
          rcases ow with ⟨_, h⟩ | ⟨h, _⟩ | ⟨n, w', off, cap, c, h, _⟩
          · exact h
          · cases h
          · cases h
        simp (maxDischargeDepth := 8) only [go_sem, reduceIte, reduceCtorEq, Nat.reduceEqDiff, Nat.reduceAdd, Nat.reduceMul, Nat.reduceSub, Nat.reduceLeDiff, Nat.reduceLT, Nat.reduceBEq, Int.reduceToNat, Int.reduceEq, Int.reduceLT, Int.reduceLE, Int.reduceAdd, Int.reduceSub, Int.reduceMul, Int.reduceNeg, toM, hw]
        refine ⟨.nils, (Hk.take HA.length).take X.hl, none, by rw [escMin_none]; rfl, by rw [hnil]; exact Own.nil _, ?_⟩
        have k1 : Keep [] H (Hk.take HA.length) := kHk.take (by omega)
        rw [← hH] at k1 ⊢
        exact k1.take (Nat.le_refl _)
      · simp (maxDischargeDepth := 8) only [go_sem, reduceIte, reduceCtorEq, Nat.reduceEqDiff, Nat.reduceAdd, Nat.reduceMul, Nat.reduceSub, Nat.reduceLeDiff, Nat.reduceLT, Nat.reduceBEq, Int.reduceToNat, Int.reduceEq, Int.reduceLT, Int.reduceLE, Int.reduceAdd, Int.reduceSub, Int.reduceMul, Int.reduceNeg, toM, hw, s1.l]
        exact ⟨_, _, _, rfl, ow, kHk⟩
    · cases h
/-- Does cell i tell that cluster (x, y) is near the edit? -/
def nearI (W : Wd) (r : Rc) (x y : Int) (i : Nat) : Bool := meetB ((i % W.w.toNat : Nat) : Int) ((i / W.w.toNat : Nat) : Int) 4 4 r.1 r.2.1 r.2.2.1 r.2.2.2 && decide (apI (((i % W.w.toNat : Nat) : Int) / 8) x ≤ 1) && decide (apI (((i / W.w.toNat : Nat) : Int) / 8) y ≤ 1)
def nearS (W : Wd) (r : Rc) (x y : Int) (n : Nat) : Bool := (List.range n).any (nearI W r x y)
theorem nearS_succ (W : Wd) (r : Rc) (x y : Int) (n : Nat) : nearS W r x y (n + 1) = (nearS W r x y n || nearI W r x y n) := by
  unfold nearS; rw [List.range_succ, List.any_append]; simp
theorem r_ref11_Touched_no {W : Wd} {X : Mem} (hw : X.Wf) (x y w hh : Int) (hn : withR (x, y, w, hh) W = false) : RF tb f_ref11_Touched [.int .i64 W.w, .int .i64 W.h, rect x y w hh] X = some (.nils, X) := by
  rw [RF_go t_ref11_Touched _ _ rfl]
  have hn' : withinB x y w hh 0 0 W.w W.h = false := hn
  simp (maxDischargeDepth := 8) only [go_sem, reduceIte, reduceCtorEq, Nat.reduceEqDiff, Nat.reduceAdd, Nat.reduceMul, Nat.reduceSub, Nat.reduceLeDiff, Nat.reduceLT, Nat.reduceBEq, Int.reduceToNat, Int.reduceEq, Int.reduceLT, Int.reduceLE, Int.reduceAdd, Int.reduceSub, Int.reduceMul, Int.reduceNeg, s_ref11_Touched, hw, rect, r_ref03_Within, hn']
theorem r_ref11_Touched {W : Wd} (w1 : 1 ≤ W.w ∧ W.w ≤ 128) (w2 : 1 ≤ W.h ∧ W.h ≤ 128) {X : Mem} (hw : X.Wf) (hhb : X.hb ≤ X.hl) (x y w hh : Int) (hn : withR (x, y, w, hh) W = true) :
    ∃ v' H' u, RF tb f_ref11_Touched [.int .i64 W.w, .int .i64 W.h, rect x y w hh] X = some (v', (X.hp H').es (escMin X.esc u)) ∧ Own cellF H' v' ((cellsP 0 0 W.cw W.ch).filter fun k => nearS W (x, y, w, hh) k.1 k.2 (W.w * W.h).toNat) ∧ Keep [] X.heap H' := by
  rw [RF_go t_ref11_Touched _ _ rfl, push_hp]
  generalize hH : X.heap = H at *
  have hHl : X.hl = H.length := by rw [← hH]; rfl
  have hin := with_in w1 w2 hn
  have hn' : withinB x y w hh 0 0 W.w W.h = true := hn
  dsimp only at hin
  have wm := wrap_mul w1 w2
  obtain ⟨hcm, hcl, hcg⟩ := clu_cells w1 w2
  have hcw : W.cw = (W.w - 1) / 8 + 1 := rfl
  have hch : W.ch = (W.h - 1) / 8 + 1 := rfl
  have hfew : W.cw.toNat * W.ch.toNat ≤ 16 * 16 := Nat.mul_le_mul (by omega) (by omega)
  have dw := fun {X : Mem} (hw : X.Wf) => r_ref11_down X hw (W.w - 1) ⟨by omega, by omega⟩
  have dh := fun {X : Mem} (hw : X.Wf) => r_ref11_down X hw (W.h - 1) ⟨by omega, by omega⟩
  have e1 := wrap_small (x := W.w - 1) (by omega) (by omega)
  have e2 := wrap_small (x := W.h - 1) (by omega) (by omega)
  simp (maxDischargeDepth := 8) only [go_sem, reduceIte, reduceCtorEq, Nat.reduceEqDiff, Nat.reduceAdd, Nat.reduceMul, Nat.reduceSub, Nat.reduceLeDiff, Nat.reduceLT, Nat.reduceBEq, Int.reduceToNat, Int.reduceEq, Int.reduceLT, Int.reduceLE, Int.reduceAdd, Int.reduceSub, Int.reduceMul, Int.reduceNeg, s_ref11_Touched, hw, hH, rect, r_ref03_Within, hn']
  rw [KL_keep _ _ _ (by simp (maxDischargeDepth := 8) only [go_sem, reduceIte, reduceCtorEq, Nat.reduceEqDiff, Nat.reduceAdd, Nat.reduceMul, Nat.reduceSub, Nat.reduceLeDiff, Nat.reduceLT, Nat.reduceBEq, Int.reduceToNat, Int.reduceEq, Int.reduceLT, Int.reduceLE, Int.reduceAdd, Int.reduceSub, Int.reduceMul, Int.reduceNeg])]
  simp (maxDischargeDepth := 8) only [go_sem, reduceIte, reduceCtorEq, Nat.reduceEqDiff, Nat.reduceAdd, Nat.reduceMul, Nat.reduceSub, Nat.reduceLeDiff, Nat.reduceLT, Nat.reduceBEq, Int.reduceToNat, Int.reduceEq, Int.reduceLT, Int.reduceLE, Int.reduceAdd, Int.reduceSub, Int.reduceMul, Int.reduceNeg]
  obtain ⟨HA, hHA⟩ : ∃ HA, H ++ [(0, SBk.cells true [])] = HA := ⟨_, rfl⟩
  have kA : Keep [] H HA := by rw [← hHA]; exact Keep.app _ _ _
  have lA : HA.length = H.length + 1 := by rw [← hHA, List.length_append]; rfl
  have ow0 : Own cellF HA (.sl (.hp H.length 0) 0 0 (some 0) 2) [] := by rw [← hHA]; exact own_new cellF_even H [] (some 0)
  rw [hHA]
  generalize hP : (fun k : Int × Int => nearS W (x, y, w, hh) k.1 k.2 (W.w * W.h).toNat) = P
  refine KL_ind (R := fun z => ∃ v' H' u, fin [.t 6] X z = some (v', (X.hp H').es (escMin X.esc u)) ∧ Own cellF H' v' ((cellsP 0 0 W.cw W.ch).filter P) ∧ Keep [] H H') (α := Nat × SV × Hp) (fun a => W.ch.toNat - a.1)
    (fun a => [(0, .int .i64 W.w), (1, .int .i64 W.h), (5, .ptr (.st X.dep 0) 0), (7, a.2.1), (8, .int .i64 (a.1 : Int))]) (fun a => (X.hp a.2.2).fr [.cells true [.int .i64 x, .int .i64 y, .int .i64 w, .int .i64 hh]] none)
    (fun a => a.1 ≤ W.ch.toNat ∧ Own cellF a.2.2 a.2.1 (((cellsP 0 0 W.cw W.ch).take (W.cw.toNat * a.1)).filter P) ∧ Keep [] H a.2.2 ∧ ∀ i ∈ slFp a.2.1, H.length ≤ i) ?_ (0, _, HA) ⟨Nat.zero_le _, ow0, kA, by simp [slFp]⟩
  rintro ⟨ky, v, Hk⟩ ⟨hky, ow, kk, fp⟩ ih
  dsimp only at hky ow kk fp ⊢
  have s1 := ow.isSl cellF_even
  simp (maxDischargeDepth := 8) only [go_sem, reduceIte, reduceCtorEq, Nat.reduceEqDiff, Nat.reduceAdd, Nat.reduceMul, Nat.reduceSub, Nat.reduceLeDiff, Nat.reduceLT, Nat.reduceBEq, Int.reduceToNat, Int.reduceEq, Int.reduceLT, Int.reduceLE, Int.reduceAdd, Int.reduceSub, Int.reduceMul, Int.reduceNeg, hw, s1.l, e2, dh]
  by_cases hlt : ky < W.ch.toNat
  · simp (maxDischargeDepth := 8) only [go_sem, reduceIte, reduceCtorEq, Nat.reduceEqDiff, Nat.reduceAdd, Nat.reduceMul, Nat.reduceSub, Nat.reduceLeDiff, Nat.reduceLT, Nat.reduceBEq, Int.reduceToNat, Int.reduceEq, Int.reduceLT, Int.reduceLE, Int.reduceAdd, Int.reduceSub, Int.reduceMul, Int.reduceNeg, show decide ((ky : Int) ≤ (W.h - 1) / 8) = true from decide_eq_true (by omega), hw]
    rw [KL_keep _ _ _ (by simp (maxDischargeDepth := 8) only [go_sem, reduceIte, reduceCtorEq, Nat.reduceEqDiff, Nat.reduceAdd, Nat.reduceMul, Nat.reduceSub, Nat.reduceLeDiff, Nat.reduceLT, Nat.reduceBEq, Int.reduceToNat, Int.reduceEq, Int.reduceLT, Int.reduceLE, Int.reduceAdd, Int.reduceSub, Int.reduceMul, Int.reduceNeg, s1.l])]
    simp (maxDischargeDepth := 8) only [go_sem, reduceIte, reduceCtorEq, Nat.reduceEqDiff, Nat.reduceAdd, Nat.reduceMul, Nat.reduceSub, Nat.reduceLeDiff, Nat.reduceLT, Nat.reduceBEq, Int.reduceToNat, Int.reduceEq, Int.reduceLT, Int.reduceLE, Int.reduceAdd, Int.reduceSub, Int.reduceMul, Int.reduceNeg]
    refine KL_ind (R := fun z => ∃ v' H' u, fin [.t 6] X z = some (v', (X.hp H').es (escMin X.esc u)) ∧ Own cellF H' v' ((cellsP 0 0 W.cw W.ch).filter P) ∧ Keep [] H H') (α := Nat × SV × Hp) (fun a => W.cw.toNat - a.1)
      (fun a => [(0, .int .i64 W.w), (1, .int .i64 W.h), (5, .ptr (.st X.dep 0) 0), (7, a.2.1), (8, .int .i64 (ky : Int)), (9, .int .i64 (a.1 : Int))]) (fun a => (X.hp a.2.2).fr [.cells true [.int .i64 x, .int .i64 y, .int .i64 w, .int .i64 hh]] none)
      (fun a => a.1 ≤ W.cw.toNat ∧ Own cellF a.2.2 a.2.1 (((cellsP 0 0 W.cw W.ch).take (W.cw.toNat * ky + a.1)).filter P) ∧ Keep [] H a.2.2 ∧ ∀ i ∈ slFp a.2.1, H.length ≤ i) ?_ (0, v, Hk) ⟨Nat.zero_le _, ow, kk, fp⟩
    clear ow kk fp s1
    rintro ⟨kx, v, Hk⟩ ⟨hkx, ow, kk, fp⟩ ih'
    dsimp only at hkx ow kk fp ⊢
    have s1 := ow.isSl cellF_even
    simp (maxDischargeDepth := 8) only [go_sem, reduceIte, reduceCtorEq, Nat.reduceEqDiff, Nat.reduceAdd, Nat.reduceMul, Nat.reduceSub, Nat.reduceLeDiff, Nat.reduceLT, Nat.reduceBEq, Int.reduceToNat, Int.reduceEq, Int.reduceLT, Int.reduceLE, Int.reduceAdd, Int.reduceSub, Int.reduceMul, Int.reduceNeg, hw, s1.l, e1, dw]
    by_cases hlt' : kx < W.cw.toNat
    · simp (maxDischargeDepth := 8) only [go_sem, reduceIte, reduceCtorEq, Nat.reduceEqDiff, Nat.reduceAdd, Nat.reduceMul, Nat.reduceSub, Nat.reduceLeDiff, Nat.reduceLT, Nat.reduceBEq, Int.reduceToNat, Int.reduceEq, Int.reduceLT, Int.reduceLE, Int.reduceAdd, Int.reduceSub, Int.reduceMul, Int.reduceNeg, show decide ((kx : Int) ≤ (W.w - 1) / 8) = true from decide_eq_true (by omega), hw]
      rw [KL_keep _ _ _ (by simp (maxDischargeDepth := 8) only [go_sem, reduceIte, reduceCtorEq, Nat.reduceEqDiff, Nat.reduceAdd, Nat.reduceMul, Nat.reduceSub, Nat.reduceLeDiff, Nat.reduceLT, Nat.reduceBEq, Int.reduceToNat, Int.reduceEq, Int.reduceLT, Int.reduceLE, Int.reduceAdd, Int.reduceSub, Int.reduceMul, Int.reduceNeg, s1.l])]
      simp (maxDischargeDepth := 8) only [go_sem, reduceIte, reduceCtorEq, Nat.reduceEqDiff, Nat.reduceAdd, Nat.reduceMul, Nat.reduceSub, Nat.reduceLeDiff, Nat.reduceLT, Nat.reduceBEq, Int.reduceToNat, Int.reduceEq, Int.reduceLT, Int.reduceLE, Int.reduceAdd, Int.reduceSub, Int.reduceMul, Int.reduceNeg]
      have hkk : W.cw.toNat * ky + kx < W.cw.toNat * W.ch.toNat := by
        have : W.cw.toNat * (ky + 1) ≤ W.cw.toNat * W.ch.toNat := Nat.mul_le_mul_left _ hlt
        rw [Nat.mul_add] at this
        omega
      have hel : (cellsP 0 0 W.cw W.ch)[W.cw.toNat * ky + kx]? = some ((kx : Int), (ky : Int)) := by
        have h1 : (cellsP 0 0 W.cw W.ch)[W.cw.toNat * ky + kx]? = some (cellsP 0 0 W.cw W.ch)[W.cw.toNat * ky + kx] := List.getElem?_eq_getElem (by rw [hcl]; exact hkk)
        rw [h1]
        generalize (cellsP 0 0 W.cw W.ch)[W.cw.toNat * ky + kx] = c at h1
        obtain ⟨a, b⟩ := c
        obtain ⟨-, rfl, rfl⟩ := hcg _ a b h1
        rw [Nat.mul_add_mod, Nat.mod_eq_of_lt hlt', Nat.mul_add_div (by omega), Nat.div_eq_of_lt hlt', Nat.add_zero]
      have hft := filter_take (P := P) hel
      have hPc : P ((kx : Int), (ky : Int)) = nearS W (x, y, w, hh) kx ky (W.w * W.h).toNat := by rw [← hP]
      refine KL_ind (R := fun z => ∃ v' H' u, fin [.t 6] X z = some (v', (X.hp H').es (escMin X.esc u)) ∧ Own cellF H' v' ((cellsP 0 0 W.cw W.ch).filter P) ∧ Keep [] H H') (α := Nat) (fun i => (W.w * W.h).toNat - i)
        (fun i => [(0, .int .i64 W.w), (1, .int .i64 W.h), (5, .ptr (.st X.dep 0) 0), (7, v), (8, .int .i64 (ky : Int)), (9, .int .i64 (kx : Int)), (10, .bool (nearS W (x, y, w, hh) kx ky i)), (11, .int .i64 (i : Int))]) (fun _ => (X.hp Hk).fr [.cells true [.int .i64 x, .int .i64 y, .int .i64 w, .int .i64 hh]] none)
        (fun i => i ≤ (W.w * W.h).toNat) ?_ 0 (Nat.zero_le _)
      intro i hi ih2
      simp (maxDischargeDepth := 8) only [go_sem, reduceIte, reduceCtorEq, Nat.reduceEqDiff, Nat.reduceAdd, Nat.reduceMul, Nat.reduceSub, Nat.reduceLeDiff, Nat.reduceLT, Nat.reduceBEq, Int.reduceToNat, Int.reduceEq, Int.reduceLT, Int.reduceLE, Int.reduceAdd, Int.reduceSub, Int.reduceMul, Int.reduceNeg, hw, s1.l, wm.1]
      by_cases hli : i < (W.w * W.h).toNat
      · have hww : W.w = ((W.w.toNat : Nat) : Int) := (Int.toNat_of_nonneg (by omega)).symm
        have q1 : Int.tmod (i : Int) W.w = ((i % W.w.toNat : Nat) : Int) := by rw [hww]; rfl
        have q2 : Int.tdiv (i : Int) W.w = ((i / W.w.toNat : Nat) : Int) := by rw [hww]; rfl
        have l2 : i % W.w.toNat < W.w.toNat := Nat.mod_lt _ (by omega)
        have l3 : i / W.w.toNat < W.h.toNat := by
          refine Nat.div_lt_of_lt_mul ?_
          have : (W.w * W.h).toNat = W.w.toNat * W.h.toNat := Int.toNat_mul (by omega) (by omega)
          omega
        have hnz : ¬ W.w = 0 := by omega
        have hns := nearS_succ W (x, y, w, hh) kx ky i
        unfold nearI at hns
        generalize i % W.w.toNat = cx at *
        generalize i / W.w.toNat = cy at *
        have wcy : IntKind.wrap .i64 (cy : Int) = cy := wrap_small (by omega) (by omega)
        simp (maxDischargeDepth := 8) only [go_sem, reduceIte, reduceCtorEq, Nat.reduceEqDiff, Nat.reduceAdd, Nat.reduceMul, Nat.reduceSub, Nat.reduceLeDiff, Nat.reduceLT, Nat.reduceBEq, Int.reduceToNat, Int.reduceEq, Int.reduceLT, Int.reduceLE, Int.reduceAdd, Int.reduceSub, Int.reduceMul, Int.reduceNeg, show decide ((i : Int) < W.w * W.h) = true from decide_eq_true (by omega), hw, q1, q2, hnz, wcy, fun {X : Mem} (hw : X.Wf) => r_ref11_Of X hw (cx : Int) (cy : Int) ⟨by omega, by omega⟩ ⟨by omega, by omega⟩, r_ref03_Meet]
        have a1 := fun {X : Mem} (hw : X.Wf) => r_ref11_apart X hw ((cx : Int) / 8) (kx : Int) (by omega) (by omega)
        have a2 := fun {X : Mem} (hw : X.Wf) => r_ref11_apart X hw ((cy : Int) / 8) (ky : Int) (by omega) (by omega)
        cases hb : nearS W (x, y, w, hh) kx ky i with
        | true =>
          have hv : nearS W (x, y, w, hh) kx ky (i + 1) = true := by rw [hns, hb]; rfl
          simp (maxDischargeDepth := 8) only [go_sem, reduceIte, reduceCtorEq, Nat.reduceEqDiff, Nat.reduceAdd, Nat.reduceMul, Nat.reduceSub, Nat.reduceLeDiff, Nat.reduceLT, Nat.reduceBEq, Int.reduceToNat, Int.reduceEq, Int.reduceLT, Int.reduceLE, Int.reduceAdd, Int.reduceSub, Int.reduceMul, Int.reduceNeg, hw, wrap_succ (show i ≤ 4611686018427387903 by omega), s1.l]
          rw [KL_keep _ _ _ (by simp (maxDischargeDepth := 8) only [go_sem, reduceIte, reduceCtorEq, Nat.reduceEqDiff, Nat.reduceAdd, Nat.reduceMul, Nat.reduceSub, Nat.reduceLeDiff, Nat.reduceLT, Nat.reduceBEq, Int.reduceToNat, Int.reduceEq, Int.reduceLT, Int.reduceLE, Int.reduceAdd, Int.reduceSub, Int.reduceMul, Int.reduceNeg, s1.l])]
          simp (maxDischargeDepth := 8) only [go_sem, reduceIte, reduceCtorEq, Nat.reduceEqDiff, Nat.reduceAdd, Nat.reduceMul, Nat.reduceSub, Nat.reduceLeDiff, Nat.reduceLT, Nat.reduceBEq, Int.reduceToNat, Int.reduceEq, Int.reduceLT, Int.reduceLE, Int.reduceAdd, Int.reduceSub, Int.reduceMul, Int.reduceNeg]
          have h9 := ih2 (i + 1) (by omega) (by omega)
          rw [hv] at h9
          exact h9
        | false =>
          simp (maxDischargeDepth := 8) only [go_sem, reduceIte, reduceCtorEq, Nat.reduceEqDiff, Nat.reduceAdd, Nat.reduceMul, Nat.reduceSub, Nat.reduceLeDiff, Nat.reduceLT, Nat.reduceBEq, Int.reduceToNat, Int.reduceEq, Int.reduceLT, Int.reduceLE, Int.reduceAdd, Int.reduceSub, Int.reduceMul, Int.reduceNeg, hw]
          cases hmt : meetB (cx : Int) (cy : Int) 4 4 x y w hh with
          | false =>
            have hv : nearS W (x, y, w, hh) kx ky (i + 1) = false := by rw [hns, hb]; show (false || (meetB (cx : Int) (cy : Int) 4 4 x y w hh && decide (apI ((cx : Int) / 8) (kx : Int) ≤ 1) && decide (apI ((cy : Int) / 8) (ky : Int) ≤ 1))) = _; rw [hmt]; rfl
            simp (maxDischargeDepth := 8) only [go_sem, reduceIte, reduceCtorEq, Nat.reduceEqDiff, Nat.reduceAdd, Nat.reduceMul, Nat.reduceSub, Nat.reduceLeDiff, Nat.reduceLT, Nat.reduceBEq, Int.reduceToNat, Int.reduceEq, Int.reduceLT, Int.reduceLE, Int.reduceAdd, Int.reduceSub, Int.reduceMul, Int.reduceNeg, hw, wrap_succ (show i ≤ 4611686018427387903 by omega), s1.l]
            rw [KL_keep _ _ _ (by simp (maxDischargeDepth := 8) only [go_sem, reduceIte, reduceCtorEq, Nat.reduceEqDiff, Nat.reduceAdd, Nat.reduceMul, Nat.reduceSub, Nat.reduceLeDiff, Nat.reduceLT, Nat.reduceBEq, Int.reduceToNat, Int.reduceEq, Int.reduceLT, Int.reduceLE, Int.reduceAdd, Int.reduceSub, Int.reduceMul, Int.reduceNeg, s1.l])]
            simp (maxDischargeDepth := 8) only [go_sem, reduceIte, reduceCtorEq, Nat.reduceEqDiff, Nat.reduceAdd, Nat.reduceMul, Nat.reduceSub, Nat.reduceLeDiff, Nat.reduceLT, Nat.reduceBEq, Int.reduceToNat, Int.reduceEq, Int.reduceLT, Int.reduceLE, Int.reduceAdd, Int.reduceSub, Int.reduceMul, Int.reduceNeg]
            have h9 := ih2 (i + 1) (by omega) (by omega)
            rw [hv] at h9
            exact h9
          | true =>
            simp (maxDischargeDepth := 8) only [go_sem, reduceIte, reduceCtorEq, Nat.reduceEqDiff, Nat.reduceAdd, Nat.reduceMul, Nat.reduceSub, Nat.reduceLeDiff, Nat.reduceLT, Nat.reduceBEq, Int.reduceToNat, Int.reduceEq, Int.reduceLT, Int.reduceLE, Int.reduceAdd, Int.reduceSub, Int.reduceMul, Int.reduceNeg, hw, a1]
            cases hd1 : decide (apI ((cx : Int) / 8) (kx : Int) ≤ 1) with
            | false =>
              have hv : nearS W (x, y, w, hh) kx ky (i + 1) = false := by rw [hns, hb]; show (false || (meetB (cx : Int) (cy : Int) 4 4 x y w hh && decide (apI ((cx : Int) / 8) (kx : Int) ≤ 1) && decide (apI ((cy : Int) / 8) (ky : Int) ≤ 1))) = _; rw [hmt, hd1]; rfl
              simp (maxDischargeDepth := 8) only [go_sem, reduceIte, reduceCtorEq, Nat.reduceEqDiff, Nat.reduceAdd, Nat.reduceMul, Nat.reduceSub, Nat.reduceLeDiff, Nat.reduceLT, Nat.reduceBEq, Int.reduceToNat, Int.reduceEq, Int.reduceLT, Int.reduceLE, Int.reduceAdd, Int.reduceSub, Int.reduceMul, Int.reduceNeg, hw, wrap_succ (show i ≤ 4611686018427387903 by omega), s1.l]
              rw [KL_keep _ _ _ (by simp (maxDischargeDepth := 8) only [go_sem, reduceIte, reduceCtorEq, Nat.reduceEqDiff, Nat.reduceAdd, Nat.reduceMul, Nat.reduceSub, Nat.reduceLeDiff, Nat.reduceLT, Nat.reduceBEq, Int.reduceToNat, Int.reduceEq, Int.reduceLT, Int.reduceLE, Int.reduceAdd, Int.reduceSub, Int.reduceMul, Int.reduceNeg, s1.l])]
              simp (maxDischargeDepth := 8) only [go_sem, reduceIte, reduceCtorEq, Nat.reduceEqDiff, Nat.reduceAdd, Nat.reduceMul, Nat.reduceSub, Nat.reduceLeDiff, Nat.reduceLT, Nat.reduceBEq, Int.reduceToNat, Int.reduceEq, Int.reduceLT, Int.reduceLE, Int.reduceAdd, Int.reduceSub, Int.reduceMul, Int.reduceNeg]
              have h9 := ih2 (i + 1) (by omega) (by omega)
              rw [hv] at h9
              exact h9
            | true =>
              simp (maxDischargeDepth := 8) only [go_sem, reduceIte, reduceCtorEq, Nat.reduceEqDiff, Nat.reduceAdd, Nat.reduceMul, Nat.reduceSub, Nat.reduceLeDiff, Nat.reduceLT, Nat.reduceBEq, Int.reduceToNat, Int.reduceEq, Int.reduceLT, Int.reduceLE, Int.reduceAdd, Int.reduceSub, Int.reduceMul, Int.reduceNeg, hw, a2]
              cases hd2 : decide (apI ((cy : Int) / 8) (ky : Int) ≤ 1) with
              | false =>
                have hv : nearS W (x, y, w, hh) kx ky (i + 1) = false := by rw [hns, hb]; show (false || (meetB (cx : Int) (cy : Int) 4 4 x y w hh && decide (apI ((cx : Int) / 8) (kx : Int) ≤ 1) && decide (apI ((cy : Int) / 8) (ky : Int) ≤ 1))) = _; rw [hmt, hd1, hd2]; rfl
                simp (maxDischargeDepth := 8) only [go_sem, reduceIte, reduceCtorEq, Nat.reduceEqDiff, Nat.reduceAdd, Nat.reduceMul, Nat.reduceSub, Nat.reduceLeDiff, Nat.reduceLT, Nat.reduceBEq, Int.reduceToNat, Int.reduceEq, Int.reduceLT, Int.reduceLE, Int.reduceAdd, Int.reduceSub, Int.reduceMul, Int.reduceNeg, hw, wrap_succ (show i ≤ 4611686018427387903 by omega), s1.l]
                rw [KL_keep _ _ _ (by simp (maxDischargeDepth := 8) only [go_sem, reduceIte, reduceCtorEq, Nat.reduceEqDiff, Nat.reduceAdd, Nat.reduceMul, Nat.reduceSub, Nat.reduceLeDiff, Nat.reduceLT, Nat.reduceBEq, Int.reduceToNat, Int.reduceEq, Int.reduceLT, Int.reduceLE, Int.reduceAdd, Int.reduceSub, Int.reduceMul, Int.reduceNeg, s1.l])]
                simp (maxDischargeDepth := 8) only [go_sem, reduceIte, reduceCtorEq, Nat.reduceEqDiff, Nat.reduceAdd, Nat.reduceMul, Nat.reduceSub, Nat.reduceLeDiff, Nat.reduceLT, Nat.reduceBEq, Int.reduceToNat, Int.reduceEq, Int.reduceLT, Int.reduceLE, Int.reduceAdd, Int.reduceSub, Int.reduceMul, Int.reduceNeg]
                have h9 := ih2 (i + 1) (by omega) (by omega)
                rw [hv] at h9
                exact h9
              | true =>
                have hv : nearS W (x, y, w, hh) kx ky (i + 1) = true := by rw [hns, hb]; show (false || (meetB (cx : Int) (cy : Int) 4 4 x y w hh && decide (apI ((cx : Int) / 8) (kx : Int) ≤ 1) && decide (apI ((cy : Int) / 8) (ky : Int) ≤ 1))) = _; rw [hmt, hd1, hd2]; rfl
                simp (maxDischargeDepth := 8) only [go_sem, reduceIte, reduceCtorEq, Nat.reduceEqDiff, Nat.reduceAdd, Nat.reduceMul, Nat.reduceSub, Nat.reduceLeDiff, Nat.reduceLT, Nat.reduceBEq, Int.reduceToNat, Int.reduceEq, Int.reduceLT, Int.reduceLE, Int.reduceAdd, Int.reduceSub, Int.reduceMul, Int.reduceNeg, hw, wrap_succ (show i ≤ 4611686018427387903 by omega), s1.l]
                rw [KL_keep _ _ _ (by simp (maxDischargeDepth := 8) only [go_sem, reduceIte, reduceCtorEq, Nat.reduceEqDiff, Nat.reduceAdd, Nat.reduceMul, Nat.reduceSub, Nat.reduceLeDiff, Nat.reduceLT, Nat.reduceBEq, Int.reduceToNat, Int.reduceEq, Int.reduceLT, Int.reduceLE, Int.reduceAdd, Int.reduceSub, Int.reduceMul, Int.reduceNeg, s1.l])]
                simp (maxDischargeDepth := 8) only [go_sem, reduceIte, reduceCtorEq, Nat.reduceEqDiff, Nat.reduceAdd, Nat.reduceMul, Nat.reduceSub, Nat.reduceLeDiff, Nat.reduceLT, Nat.reduceBEq, Int.reduceToNat, Int.reduceEq, Int.reduceLT, Int.reduceLE, Int.reduceAdd, Int.reduceSub, Int.reduceMul, Int.reduceNeg]
                have h9 := ih2 (i + 1) (by omega) (by omega)
                rw [hv] at h9
                exact h9
      · obtain rfl : i = (W.w * W.h).toNat := by omega
        clear ih2
        rw [← hPc]
        simp (maxDischargeDepth := 8) only [go_sem, reduceIte, reduceCtorEq, Nat.reduceEqDiff, Nat.reduceAdd, Nat.reduceMul, Nat.reduceSub, Nat.reduceLeDiff, Nat.reduceLT, Nat.reduceBEq, Int.reduceToNat, Int.reduceEq, Int.reduceLT, Int.reduceLE, Int.reduceAdd, Int.reduceSub, Int.reduceMul, Int.reduceNeg, show decide ((((W.w * W.h).toNat : Nat) : Int) < W.w * W.h) = false from decide_eq_false (by omega), hw]
        cases hPv : P ((kx : Int), (ky : Int)) with
        | false =>
          rw [hPv] at hft
          simp only [Bool.false_eq_true, if_false, List.append_nil] at hft
          simp (maxDischargeDepth := 8) only [go_sem, reduceIte, reduceCtorEq, Nat.reduceEqDiff, Nat.reduceAdd, Nat.reduceMul, Nat.reduceSub, Nat.reduceLeDiff, Nat.reduceLT, Nat.reduceBEq, Int.reduceToNat, Int.reduceEq, Int.reduceLT, Int.reduceLE, Int.reduceAdd, Int.reduceSub, Int.reduceMul, Int.reduceNeg, hw, wrap_succ (show kx ≤ 4611686018427387903 by omega), s1.l]
          rw [KL_keep _ _ _ (by simp (maxDischargeDepth := 8) only [go_sem, reduceIte, reduceCtorEq, Nat.reduceEqDiff, Nat.reduceAdd, Nat.reduceMul, Nat.reduceSub, Nat.reduceLeDiff, Nat.reduceLT, Nat.reduceBEq, Int.reduceToNat, Int.reduceEq, Int.reduceLT, Int.reduceLE, Int.reduceAdd, Int.reduceSub, Int.reduceMul, Int.reduceNeg, s1.l])]
          simp (maxDischargeDepth := 8) only [go_sem, reduceIte, reduceCtorEq, Nat.reduceEqDiff, Nat.reduceAdd, Nat.reduceMul, Nat.reduceSub, Nat.reduceLeDiff, Nat.reduceLT, Nat.reduceBEq, Int.reduceToNat, Int.reduceEq, Int.reduceLT, Int.reduceLE, Int.reduceAdd, Int.reduceSub, Int.reduceMul, Int.reduceNeg]
          exact ih' (kx + 1, v, Hk) ⟨by dsimp only; omega, by dsimp only; rw [← Nat.add_assoc, hft]; exact ow, kk, fp⟩ (by dsimp only; omega)
        | true =>
          rw [hPv] at hft
          simp only [if_true] at hft
          have hsz : (((cellsP 0 0 W.cw W.ch).take (W.cw.toNat * ky + kx)).filter P).length ≤ 256 := by
            have := List.length_filter_le P ((cellsP 0 0 W.cw W.ch).take (W.cw.toNat * ky + kx))
            rw [List.length_take, hcl] at this
            omega
          have hyl : LiesD cellF (Hm (Hk ++ [(0, .cells true [.int .i64 (kx : Int), .int .i64 (ky : Int)])])) (.sl (.hp Hk.length 0) 0 1 (some 1) 2) [((kx : Int), (ky : Int))] := (own_new cellF_even Hk [((kx : Int), (ky : Int))] (some 1)).lies cellF_even
          obtain ⟨v', H2, ha, o1, o2, o3, ⟨o4, o5, o6⟩, o7⟩ := app_own cellF_even (by decide) cellF_ok hxs_cell (ow.keep (Keep.app [] Hk [(0, .cells true [.int .i64 (kx : Int), .int .i64 (ky : Int)])]) (by simp)) hyl (bytes := 16) (by simp only [List.length_singleton, two48]; omega) (by simp only [List.length_singleton, two48]; omega) X (fun i hi => by have := fp i hi; omega)
          have ha' := ha [.int .i64 0, .int .i64 0] rfl (fun _ => true) (ow.aw (fun _ _ => rfl))
          change ∀ f e, appV 2 16 _ _ _ _ _ = _ at ha'
          have s2 := o1.isSl cellF_even
          have k2 : Keep [] H H2 := (kk.trans (Keep.app [] _ _)).trans' o2 (fun n hn hl => by have := fp n hn; omega)
          simp (maxDischargeDepth := 8) only [go_sem, reduceIte, reduceCtorEq, Nat.reduceEqDiff, Nat.reduceAdd, Nat.reduceMul, Nat.reduceSub, Nat.reduceLeDiff, Nat.reduceLT, Nat.reduceBEq, Int.reduceToNat, Int.reduceEq, Int.reduceLT, Int.reduceLE, Int.reduceAdd, Int.reduceSub, Int.reduceMul, Int.reduceNeg, hw, ha', wrap_succ (show kx ≤ 4611686018427387903 by omega), s1.l, s2.l]
          rw [KL_keep _ _ _ (by simp (maxDischargeDepth := 8) only [go_sem, reduceIte, reduceCtorEq, Nat.reduceEqDiff, Nat.reduceAdd, Nat.reduceMul, Nat.reduceSub, Nat.reduceLeDiff, Nat.reduceLT, Nat.reduceBEq, Int.reduceToNat, Int.reduceEq, Int.reduceLT, Int.reduceLE, Int.reduceAdd, Int.reduceSub, Int.reduceMul, Int.reduceNeg, s2.l])]
          simp (maxDischargeDepth := 8) only [go_sem, reduceIte, reduceCtorEq, Nat.reduceEqDiff, Nat.reduceAdd, Nat.reduceMul, Nat.reduceSub, Nat.reduceLeDiff, Nat.reduceLT, Nat.reduceBEq, Int.reduceToNat, Int.reduceEq, Int.reduceLT, Int.reduceLE, Int.reduceAdd, Int.reduceSub, Int.reduceMul, Int.reduceNeg]
          refine ih' (kx + 1, v', H2) ⟨by dsimp only; omega, by dsimp only; rw [← Nat.add_assoc, hft]; exact o1, k2, fun i hi => ?_⟩ (by dsimp only; omega)
          have := o3 i hi
          rw [List.length_append] at this
          have := kk.1
          rcases o3 i hi with h | h
          · exact fp i h
          · rw [List.length_append] at h; omega
    · obtain rfl : kx = W.cw.toNat := by omega
      simp (maxDischargeDepth := 8) only [go_sem, reduceIte, reduceCtorEq, Nat.reduceEqDiff, Nat.reduceAdd, Nat.reduceMul, Nat.reduceSub, Nat.reduceLeDiff, Nat.reduceLT, Nat.reduceBEq, Int.reduceToNat, Int.reduceEq, Int.reduceLT, Int.reduceLE, Int.reduceAdd, Int.reduceSub, Int.reduceMul, Int.reduceNeg, show decide (((W.cw.toNat : Nat) : Int) ≤ (W.w - 1) / 8) = false from decide_eq_false (by omega), hw, wrap_succ (show ky ≤ 4611686018427387903 by omega), s1.l]
      rw [KL_keep _ _ _ (by simp (maxDischargeDepth := 8) only [go_sem, reduceIte, reduceCtorEq, Nat.reduceEqDiff, Nat.reduceAdd, Nat.reduceMul, Nat.reduceSub, Nat.reduceLeDiff, Nat.reduceLT, Nat.reduceBEq, Int.reduceToNat, Int.reduceEq, Int.reduceLT, Int.reduceLE, Int.reduceAdd, Int.reduceSub, Int.reduceMul, Int.reduceNeg, s1.l])]
      simp (maxDischargeDepth := 8) only [go_sem, reduceIte, reduceCtorEq, Nat.reduceEqDiff, Nat.reduceAdd, Nat.reduceMul, Nat.reduceSub, Nat.reduceLeDiff, Nat.reduceLT, Nat.reduceBEq, Int.reduceToNat, Int.reduceEq, Int.reduceLT, Int.reduceLE, Int.reduceAdd, Int.reduceSub, Int.reduceMul, Int.reduceNeg]
      exact ih (ky + 1, v, Hk) ⟨by dsimp only; omega, by dsimp only; rw [Nat.mul_add, Nat.mul_one]; exact ow, kk, fp⟩ (by dsimp only; omega)
  · obtain rfl : ky = W.ch.toNat := by omega
    simp (maxDischargeDepth := 8) only [go_sem, reduceIte, reduceCtorEq, Nat.reduceEqDiff, Nat.reduceAdd, Nat.reduceMul, Nat.reduceSub, Nat.reduceLeDiff, Nat.reduceLT, Nat.reduceBEq, Int.reduceToNat, Int.reduceEq, Int.reduceLT, Int.reduceLE, Int.reduceAdd, Int.reduceSub, Int.reduceMul, Int.reduceNeg, show decide (((W.ch.toNat : Nat) : Int) ≤ (W.h - 1) / 8) = false from decide_eq_false (by omega), hw, s1.l]
    rw [← hcl, List.take_length] at ow
    refine ⟨v, _, none, by rw [escMin_none]; rfl, ow.congr fun i hi => fin_keep1 (.inr ?_), ?_⟩
    · have := fp i hi
      rw [hx_fp hi]
      omega
    · rw [← hH] at kk ⊢
      exact kk.back1
theorem ap1 {a b : Int} : apI a b ≤ 1 ↔ a - 1 ≤ b ∧ b ≤ a + 1 := by unfold apI; split <;> omega
/-- A place in a range whose cluster is near. -/
def pickI (lo hi k : Int) : Int := if 8 * k < lo then lo else if hi < 8 * k then hi else 8 * k
theorem pick_in {lo hi k : Int} (h : lo ≤ hi) : lo ≤ pickI lo hi k ∧ pickI lo hi k ≤ hi := by unfold pickI; split <;> (try split) <;> omega
theorem pick_near {lo hi k : Int} (h : lo ≤ hi) (h1 : lo / 8 - 1 ≤ k) (h2 : k ≤ hi / 8 + 1) : apI (pickI lo hi k / 8) k ≤ 1 := by rw [ap1]; unfold pickI; split <;> (try split) <;> omega
theorem near_tou {W : Wd} (w1 : 1 ≤ W.w ∧ W.w ≤ 128) (w2 : 1 ≤ W.h ∧ W.h ≤ 128) {x y w hh : Int} (hn : withR (x, y, w, hh) W = true) (k : Int × Int) : nearS W (x, y, w, hh) k.1 k.2 (W.w * W.h).toNat = touB (x, y, w, hh) k := by
  have hin := with_in w1 w2 hn
  dsimp only at hin
  have hmay := hin.2.2.2.2.2.2
  have l1 := may_last hmay
  have x1 := @mxI_le 0 (x - 3)
  have y1 := @mxI_le 0 (y - 3)
  have hnn : (W.w * W.h).toNat = W.w.toNat * W.h.toNat := Int.toNat_mul (by omega) (by omega)
  have hpos : 0 < W.w.toNat := by omega
  -- what a cell's meeting says
  have hmeet : ∀ a b : Int, 0 ≤ a ∧ a ≤ 200 → 0 ≤ b ∧ b ≤ 200 → (meetB a b 4 4 x y w hh = true ↔ (mxI 0 (x - 3) ≤ a ∧ a ≤ x + w - 1) ∧ mxI 0 (y - 3) ≤ b ∧ b ≤ y + hh - 1) := by
    intro a b ha hb
    have m1 := may_gen (x := a) (y := b) (w := 4) (h := 4) (by omega) (by omega) (by omega) (by omega)
    have e1 := last_gen (x := a) (w := 4) (by omega) (by omega)
    have e2 := last_gen (x := b) (w := 4) (by omega) (by omega)
    unfold meetB
    rw [m1, hmay, l1.1, l1.2, e1, e2]
    simp only [Bool.true_and, Bool.and_eq_true, decide_eq_true_eq]
    have a1 := @mxI_le a x
    have a2 := @mxI_le b y
    have a3 := @mnI_le (a + 4 - 1) (x + w - 1)
    have a4 := @mnI_le (b + 4 - 1) (y + hh - 1)
    omega
  rw [Bool.eq_iff_iff]
  unfold nearS
  rw [List.any_eq_true]
  simp only [List.mem_range, nearI, touB, Bool.and_eq_true, decide_eq_true_eq]
  constructor
  · rintro ⟨i, hi, ⟨h1, h2⟩, h3⟩
    rw [hnn] at hi
    have l2 : i % W.w.toNat < W.w.toNat := Nat.mod_lt _ hpos
    have l3 : i / W.w.toNat < W.h.toNat := Nat.div_lt_of_lt_mul hi
    generalize i % W.w.toNat = cx at *
    generalize i / W.w.toNat = cy at *
    have := (hmeet (cx : Int) (cy : Int) (by omega) (by omega)).1 h1
    rw [ap1] at h2 h3
    omega
  · rintro ⟨⟨⟨h1, h2⟩, h3⟩, h4⟩
    have px := pick_in (lo := mxI 0 (x - 3)) (hi := x + w - 1) (k := k.1) (by omega)
    have py := pick_in (lo := mxI 0 (y - 3)) (hi := y + hh - 1) (k := k.2) (by omega)
    have nx := pick_near (lo := mxI 0 (x - 3)) (hi := x + w - 1) (k := k.1) (by omega) h1 h2
    have ny := pick_near (lo := mxI 0 (y - 3)) (hi := y + hh - 1) (k := k.2) (by omega) h3 h4
    generalize pickI (mxI 0 (x - 3)) (x + w - 1) k.1 = cx at *
    generalize pickI (mxI 0 (y - 3)) (y + hh - 1) k.2 = cy at *
    refine ⟨W.w.toNat * cy.toNat + cx.toNat, ?_, ?_⟩
    · have : W.w.toNat * (cy.toNat + 1) ≤ W.w.toNat * W.h.toNat := Nat.mul_le_mul_left _ (by omega)
      rw [Nat.mul_add] at this
      rw [hnn]
      omega
    · rw [Nat.mul_add_mod, Nat.mod_eq_of_lt (by omega), Nat.mul_add_div hpos, Nat.div_eq_of_lt (by omega), Nat.add_zero, Int.toNat_of_nonneg (by omega), Int.toNat_of_nonneg (by omega)]
      exact ⟨⟨(hmeet cx cy (by omega) (by omega)).2 ⟨px, py⟩, nx⟩, ny⟩
theorem r_law11_ClusterTouched {X : Mem} {tv bv : SV} {W : Wd} (hdy : W.dirty = []) (hm : MapIn X tv bv W.tiles W.bl) (hw : X.Wf) (hhb : X.hb ≤ X.hl) (hW1 : In64 W.w) (hW2 : In64 W.h) (x y w hh : Int) : ∃ m', RF tb f_law11_ClusterTouched [.agg [.int .i64 W.w, .int .i64 W.h, tv, bv], rect x y w hh] X = some (.bool true, m') := by
  rw [RF_go t_law11_ClusterTouched _ _ rfl, push_hp]
  simp (maxDischargeDepth := 8) only [go_sem, reduceIte, reduceCtorEq, Nat.reduceEqDiff, Nat.reduceAdd, Nat.reduceMul, Nat.reduceSub, Nat.reduceLeDiff, Nat.reduceLT, Nat.reduceBEq, Int.reduceToNat, Int.reduceEq, Int.reduceLT, Int.reduceLE, Int.reduceAdd, Int.reduceSub, Int.reduceMul, Int.reduceNeg, s_law11_ClusterTouched, rect, hw, hm.t.cell, hm.b.cell]
  generalize hz : RF tb f_law11_awake _ _ = z
  obtain ⟨H0, u0, rfl, k0⟩ := aw11 hz (by simp (maxDischargeDepth := 8) only [go_sem, reduceIte, reduceCtorEq, Nat.reduceEqDiff, Nat.reduceAdd, Nat.reduceMul, Nat.reduceSub, Nat.reduceLeDiff, Nat.reduceLT, Nat.reduceBEq, Int.reduceToNat, Int.reduceEq, Int.reduceLT, Int.reduceLE, Int.reduceAdd, Int.reduceSub, Int.reduceMul, Int.reduceNeg, hw]) hhb
  change Keep [] X.heap H0 at k0
  have hl0 : X.hb ≤ H0.length := Nat.le_trans hhb k0.1
  simp (maxDischargeDepth := 8) only [go_sem, reduceIte, reduceCtorEq, Nat.reduceEqDiff, Nat.reduceAdd, Nat.reduceMul, Nat.reduceSub, Nat.reduceLeDiff, Nat.reduceLT, Nat.reduceBEq, Int.reduceToNat, Int.reduceEq, Int.reduceLT, Int.reduceLE, Int.reduceAdd, Int.reduceSub, Int.reduceMul, Int.reduceNeg, hw]
  generalize hz : RF tb f_law06_Both _ _ = z
  rcases both_ofW hdy hz ⟨hm.t.keep k0 (by simp), hm.g, hm.b.keep k0 (by simp), hm.n⟩ (by simp (maxDischargeDepth := 8) only [go_sem, reduceIte, reduceCtorEq, Nat.reduceEqDiff, Nat.reduceAdd, Nat.reduceMul, Nat.reduceSub, Nat.reduceLeDiff, Nat.reduceLT, Nat.reduceBEq, Int.reduceToNat, Int.reduceEq, Int.reduceLT, Int.reduceLE, Int.reduceAdd, Int.reduceSub, Int.reduceMul, Int.reduceNeg, hw]) hl0 with ⟨H', u, rfl, k⟩ | ⟨H', u, p, q, rfl, hO, hR, hg, k, -, -⟩
  · have hle : X.hb ≤ H'.length := Nat.le_trans hl0 k.1
    simp (maxDischargeDepth := 8) only [go_sem, reduceIte, reduceCtorEq, Nat.reduceEqDiff, Nat.reduceAdd, Nat.reduceMul, Nat.reduceSub, Nat.reduceLeDiff, Nat.reduceLT, Nat.reduceBEq, Int.reduceToNat, Int.reduceEq, Int.reduceLT, Int.reduceLE, Int.reduceAdd, Int.reduceSub, Int.reduceMul, Int.reduceNeg, hw]
    generalize hz : RF tb f_law11_awake _ _ = z
    obtain ⟨H', u, rfl, -⟩ := aw11 hz (by simp (maxDischargeDepth := 8) only [go_sem, reduceIte, reduceCtorEq, Nat.reduceEqDiff, Nat.reduceAdd, Nat.reduceMul, Nat.reduceSub, Nat.reduceLeDiff, Nat.reduceLT, Nat.reduceBEq, Int.reduceToNat, Int.reduceEq, Int.reduceLT, Int.reduceLE, Int.reduceAdd, Int.reduceSub, Int.reduceMul, Int.reduceNeg, hw]) hle
    simp (maxDischargeDepth := 8) only [go_sem, reduceIte, reduceCtorEq, Nat.reduceEqDiff, Nat.reduceAdd, Nat.reduceMul, Nat.reduceSub, Nat.reduceLeDiff, Nat.reduceLT, Nat.reduceBEq, Int.reduceToNat, Int.reduceEq, Int.reduceLT, Int.reduceLE, Int.reduceAdd, Int.reduceSub, Int.reduceMul, Int.reduceNeg, hw]
    exact ⟨_, rfl⟩
  · have hle : X.hb ≤ H'.length := Nat.le_trans hl0 k.1
    have w1 := hO.at_.w1
    have w2 := hO.at_.h1
    have wm := wrap_mul w1 w2
    have tail : ∀ (Hq : Hp) (e : Option Nat) (v1 v2 : SV) (L : List (Int × Int)), LiesD cellF (Hm Hq) v1 L → LiesD cellF (Hm Hq) v2 L → X.hb ≤ Hq.length → L.length ≤ 100000 → ∃ m', fin [.t 4] X (KL tb
          [KI.block 0, KI.kp [],
            KI.seq
              ((SCode.region false
                    [{ dst := some 59, op := SOp.call f_law11_awake [], guard := none, quiet := false },
                      { dst := some 4, op := SOp.mv (Opd.t 59), guard := none, quiet := false }]).seq
                SCode.ret)]
          2 (some [8, 9, 10]) s_law11_ClusterTouched_p9 [(8, v1), (9, v2), (10, SV.int IntKind.i64 0)]
          ((X.hp Hq).fr
            [SBk.cells true [SV.int IntKind.i64 W.w, SV.int IntKind.i64 W.h, tv, bv],
              SBk.cells true [SV.int IntKind.i64 x, SV.int IntKind.i64 y, SV.int IntKind.i64 w, SV.int IntKind.i64 hh]]
            e)) = some (.bool true, m') := by
      intro Hq e v1 v2 L q1 q2 hq hL
      refine KL_ind (R := fun z => ∃ m', fin [.t 4] X z = some (.bool true, m')) (α := Nat) (fun i => L.length - i) (fun i => [(8, v1), (9, v2), (10, .int .i64 (i : Int))]) (fun _ => (X.hp Hq).fr [SBk.cells true [SV.int IntKind.i64 W.w, SV.int IntKind.i64 W.h, tv, bv], SBk.cells true [SV.int IntKind.i64 x, SV.int IntKind.i64 y, SV.int IntKind.i64 w, SV.int IntKind.i64 hh]] e) (fun i => i ≤ L.length) ?_ 0 (Nat.zero_le _)
      intro i hi ih
      simp (maxDischargeDepth := 8) only [go_sem, reduceIte, reduceCtorEq, Nat.reduceEqDiff, Nat.reduceAdd, Nat.reduceMul, Nat.reduceSub, Nat.reduceLeDiff, Nat.reduceLT, Nat.reduceBEq, Int.reduceToNat, Int.reduceEq, Int.reduceLT, Int.reduceLE, Int.reduceAdd, Int.reduceSub, Int.reduceMul, Int.reduceNeg, hw, q1.lv, q2.lv, q1.len]
      by_cases hlt : i < L.length
      · have hel : L[i]? = some L[i] := List.getElem?_eq_getElem hlt
        generalize L[i] = c at hel
        simp (maxDischargeDepth := 8) only [go_sem, reduceIte, reduceCtorEq, Nat.reduceEqDiff, Nat.reduceAdd, Nat.reduceMul, Nat.reduceSub, Nat.reduceLeDiff, Nat.reduceLT, Nat.reduceBEq, Int.reduceToNat, Int.reduceEq, Int.reduceLT, Int.reduceLE, Int.reduceAdd, Int.reduceSub, Int.reduceMul, Int.reduceNeg, show decide ((i : Int) < (L.length : Int)) = true from decide_eq_true (by omega), hw, q1.iaddrC hlt, q1.loadC hel, q2.iaddrC hlt, q2.loadC hel, q1.lv, q2.lv, wrap_succ (show i ≤ 4611686018427387903 by omega)]
        rw [KL_keep _ _ _ (by simp (maxDischargeDepth := 8) only [go_sem, reduceIte, reduceCtorEq, Nat.reduceEqDiff, Nat.reduceAdd, Nat.reduceMul, Nat.reduceSub, Nat.reduceLeDiff, Nat.reduceLT, Nat.reduceBEq, Int.reduceToNat, Int.reduceEq, Int.reduceLT, Int.reduceLE, Int.reduceAdd, Int.reduceSub, Int.reduceMul, Int.reduceNeg, q1.lv, q2.lv])]
        simp (maxDischargeDepth := 8) only [go_sem, reduceIte, reduceCtorEq, Nat.reduceEqDiff, Nat.reduceAdd, Nat.reduceMul, Nat.reduceSub, Nat.reduceLeDiff, Nat.reduceLT, Nat.reduceBEq, Int.reduceToNat, Int.reduceEq, Int.reduceLT, Int.reduceLE, Int.reduceAdd, Int.reduceSub, Int.reduceMul, Int.reduceNeg]
        exact ih (i + 1) (by omega) (by omega)
      · obtain rfl : i = L.length := by omega
        simp (maxDischargeDepth := 8) only [go_sem, reduceIte, reduceCtorEq, Nat.reduceEqDiff, Nat.reduceAdd, Nat.reduceMul, Nat.reduceSub, Nat.reduceLeDiff, Nat.reduceLT, Nat.reduceBEq, Int.reduceToNat, Int.reduceEq, Int.reduceLT, Int.reduceLE, Int.reduceAdd, Int.reduceSub, Int.reduceMul, Int.reduceNeg, show decide ((L.length : Int) < (L.length : Int)) = false from decide_eq_false (by omega), hw]
        generalize hz : RF tb f_law11_awake _ _ = z
        obtain ⟨H', u, rfl, -⟩ := aw11 hz (by simp (maxDischargeDepth := 8) only [go_sem, reduceIte, reduceCtorEq, Nat.reduceEqDiff, Nat.reduceAdd, Nat.reduceMul, Nat.reduceSub, Nat.reduceLeDiff, Nat.reduceLT, Nat.reduceBEq, Int.reduceToNat, Int.reduceEq, Int.reduceLT, Int.reduceLE, Int.reduceAdd, Int.reduceSub, Int.reduceMul, Int.reduceNeg, hw]) hq
        simp (maxDischargeDepth := 8) only [go_sem, reduceIte, reduceCtorEq, Nat.reduceEqDiff, Nat.reduceAdd, Nat.reduceMul, Nat.reduceSub, Nat.reduceLeDiff, Nat.reduceLT, Nat.reduceBEq, Int.reduceToNat, Int.reduceEq, Int.reduceLT, Int.reduceLE, Int.reduceAdd, Int.reduceSub, Int.reduceMul, Int.reduceNeg, hw]
        exact ⟨_, rfl⟩
    simp (maxDischargeDepth := 8) only [go_sem, reduceIte, reduceCtorEq, Nat.reduceEqDiff, Nat.reduceAdd, Nat.reduceMul, Nat.reduceSub, Nat.reduceLeDiff, Nat.reduceLT, Nat.reduceBEq, Int.reduceToNat, Int.reduceEq, Int.reduceLT, Int.reduceLE, Int.reduceAdd, Int.reduceSub, Int.reduceMul, Int.reduceNeg, hw, wm.1]
    cases h1000 : decide (W.w * W.h > 1000) with
    | true =>
      simp (maxDischargeDepth := 8) only [go_sem, reduceIte, reduceCtorEq, Nat.reduceEqDiff, Nat.reduceAdd, Nat.reduceMul, Nat.reduceSub, Nat.reduceLeDiff, Nat.reduceLT, Nat.reduceBEq, Int.reduceToNat, Int.reduceEq, Int.reduceLT, Int.reduceLE, Int.reduceAdd, Int.reduceSub, Int.reduceMul, Int.reduceNeg, hw]
      generalize hz : RF tb f_law11_awake _ _ = z
      obtain ⟨H', u, rfl, -⟩ := aw11 hz (by simp (maxDischargeDepth := 8) only [go_sem, reduceIte, reduceCtorEq, Nat.reduceEqDiff, Nat.reduceAdd, Nat.reduceMul, Nat.reduceSub, Nat.reduceLeDiff, Nat.reduceLT, Nat.reduceBEq, Int.reduceToNat, Int.reduceEq, Int.reduceLT, Int.reduceLE, Int.reduceAdd, Int.reduceSub, Int.reduceMul, Int.reduceNeg, hw]) hle
      simp (maxDischargeDepth := 8) only [go_sem, reduceIte, reduceCtorEq, Nat.reduceEqDiff, Nat.reduceAdd, Nat.reduceMul, Nat.reduceSub, Nat.reduceLeDiff, Nat.reduceLT, Nat.reduceBEq, Int.reduceToNat, Int.reduceEq, Int.reduceLT, Int.reduceLE, Int.reduceAdd, Int.reduceSub, Int.reduceMul, Int.reduceNeg, hw]
      exact ⟨_, rfl⟩
    | false =>
      cases hn : withR (x, y, w, hh) W with
      | false =>
        simp (maxDischargeDepth := 8) only [go_sem, reduceIte, reduceCtorEq, Nat.reduceEqDiff, Nat.reduceAdd, Nat.reduceMul, Nat.reduceSub, Nat.reduceLeDiff, Nat.reduceLT, Nat.reduceBEq, Int.reduceToNat, Int.reduceEq, Int.reduceLT, Int.reduceLE, Int.reduceAdd, Int.reduceSub, Int.reduceMul, Int.reduceNeg, hw, fun {X : Mem} (hX : HpSub (Hm H') X) (hw : X.Wf) => r_cluster_Touched_no hO.at_ hX hw x y w hh hn, fun {X : Mem} (hw : X.Wf) => r_ref11_Touched_no (W := W) hw x y w hh hn]
        exact tail _ _ _ _ [] (LiesD.nil _ _) (LiesD.nil _ _) hle (Nat.zero_le _)
      | true =>
        simp (maxDischargeDepth := 8) only [go_sem, reduceIte, reduceCtorEq, Nat.reduceEqDiff, Nat.reduceAdd, Nat.reduceMul, Nat.reduceSub, Nat.reduceLeDiff, Nat.reduceLT, Nat.reduceBEq, Int.reduceToNat, Int.reduceEq, Int.reduceLT, Int.reduceLE, Int.reduceAdd, Int.reduceSub, Int.reduceMul, Int.reduceNeg, hw]
        generalize hz : RF tb f_cluster_Touched _ _ = z
        obtain ⟨v1, H1, u1, h1, o1, k1⟩ := r_cluster_Touched (X := ((X.hp H').fr [.cells true [.int .i64 W.w, .int .i64 W.h, tv, bv], .cells true [.int .i64 x, .int .i64 y, .int .i64 w, .int .i64 hh]] (escMin u0 u)).shut) hO (shut_wf _) (Nat.le_refl _) x y w hh hn
        rw [hz] at h1
        subst h1
        change Keep [] H' H1 at k1
        simp (maxDischargeDepth := 8) only [go_sem, reduceIte, reduceCtorEq, Nat.reduceEqDiff, Nat.reduceAdd, Nat.reduceMul, Nat.reduceSub, Nat.reduceLeDiff, Nat.reduceLT, Nat.reduceBEq, Int.reduceToNat, Int.reduceEq, Int.reduceLT, Int.reduceLE, Int.reduceAdd, Int.reduceSub, Int.reduceMul, Int.reduceNeg, hw]
        generalize hz : RF tb f_ref11_Touched _ _ = z
        obtain ⟨v2, H2, u2, h2, o2, k2⟩ := r_ref11_Touched w1 w2 (X := (X.hp H1).fr [.cells true [.int .i64 W.w, .int .i64 W.h, tv, bv], .cells true [.int .i64 x, .int .i64 y, .int .i64 w, .int .i64 hh]] (escMin (escMin u0 u) u1)) (fr_wf (hp_wf hw) _ _) (by show X.hb ≤ H1.length; have := k1.1; omega) x y w hh hn
        rw [hz] at h2
        subst h2
        change Keep [] H1 H2 at k2
        have heq : (cellsP 0 0 W.cw W.ch).filter (fun k => nearS W (x, y, w, hh) k.1 k.2 (W.w * W.h).toNat) = W.touL (x, y, w, hh) := by
          unfold Wd.touL
          exact List.filter_congr fun k _ => near_tou w1 w2 hn k
        rw [heq] at o2
        have q1 := (o1.lies cellF_even).keep k2 (by simp)
        have q2 := o2.lies cellF_even
        have hL : (W.touL (x, y, w, hh)).length ≤ 100000 := by
          have h1 := List.length_filter_le (touB (x, y, w, hh)) (cellsP 0 0 W.cw W.ch)
          obtain ⟨-, hcl, -⟩ := clu_cells w1 w2
          have hcw : W.cw = (W.w - 1) / 8 + 1 := rfl
          have hch : W.ch = (W.h - 1) / 8 + 1 := rfl
          have hfew : W.cw.toNat * W.ch.toNat ≤ 16 * 16 := Nat.mul_le_mul (by omega) (by omega)
          unfold Wd.touL
          omega
        simp (maxDischargeDepth := 8) only [go_sem, reduceIte, reduceCtorEq, Nat.reduceEqDiff, Nat.reduceAdd, Nat.reduceMul, Nat.reduceSub, Nat.reduceLeDiff, Nat.reduceLT, Nat.reduceBEq, Int.reduceToNat, Int.reduceEq, Int.reduceLT, Int.reduceLE, Int.reduceAdd, Int.reduceSub, Int.reduceMul, Int.reduceNeg, hw, q1.len, q2.len, show ∀ n : Int, (n != n) = false from fun n => by simp]
        rw [KL_keep _ _ _ (by simp (maxDischargeDepth := 8) only [go_sem, reduceIte, reduceCtorEq, Nat.reduceEqDiff, Nat.reduceAdd, Nat.reduceMul, Nat.reduceSub, Nat.reduceLeDiff, Nat.reduceLT, Nat.reduceBEq, Int.reduceToNat, Int.reduceEq, Int.reduceLT, Int.reduceLE, Int.reduceAdd, Int.reduceSub, Int.reduceMul, Int.reduceNeg, q1.lv, q2.lv])]
        simp (maxDischargeDepth := 8) only [go_sem, reduceIte, reduceCtorEq, Nat.reduceEqDiff, Nat.reduceAdd, Nat.reduceMul, Nat.reduceSub, Nat.reduceLeDiff, Nat.reduceLT, Nat.reduceBEq, Int.reduceToNat, Int.reduceEq, Int.reduceLT, Int.reduceLE, Int.reduceAdd, Int.reduceSub, Int.reduceMul, Int.reduceNeg]
        exact tail _ _ _ _ _ q1 q2 (by have := k1.1; have := k2.1; omega) hL
section
open Go.RowKit Go.WideShapes
theorem law11_ClusterTouched {P : Program} {e e' : TypeId} {okB : Bl' → Prop} (a : MT) (ok1 : inR .i64 a.1) (ok2 : inR .i64 a.2.1) (c : (Int × Int) × (Int × Int)) (h1 : slOk P e (inR .u8) a.2.2.1) (h2 : slOk P e' okB a.2.2.2) (hB : P.bytesOf e' = 40) {n0 n1 : In} (e0 : n0.map (·.2) = rdM.blks a 0) : ∃ m', RF tb f_law11_ClusterTouched [.agg (rdM.cells a 0), .agg [.int .i64 c.1.1, .int .i64 c.1.2, .int .i64 c.2.1, .int .i64 c.2.2]] (In.mem ([] ++ n0 ++ n1)) = some (.bool true, m') := by
  rw [rdM_blks] at e0
  rw [rdM_cells]
  exact r_law11_ClusterTouched (W := ⟨a.1, a.2.1, a.2.2.1.l, a.2.2.2.l.map bl5, []⟩) rfl (mapIn_of (pre := []) h1 h2 hB e0) (In.wf _) (Nat.zero_le _) (inR_i64 ok1) (inR_i64 ok2) _ _ _ _
end
end Go.Sh.T
