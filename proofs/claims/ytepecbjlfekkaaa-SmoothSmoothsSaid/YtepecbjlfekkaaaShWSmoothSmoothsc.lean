import Derived.Test.YtepecbjlfekkaaaShWSmoothSmoothsb
import Derived.Test.YtepecbjlfekkaaaShArg
set_option linter.all false
set_option linter.unusedVariables false
set_option linter.unusedSimpArgs false
set_option autoImplicit false
namespace Go.Sh.T
open Go.Sh
set_option maxHeartbeats 8000000
set_option maxRecDepth 20000
theorem gr_of {X : Mem} {p : QP} {W : Wd} {bl : List Bld} {cl sz : Int} {z : Option (SV × Mem)} (hz : RF tb f_ref08_Of [.ptr (.hp p.k 0) 0, .agg [.int .i64 cl, .int .i64 sz]] X = z) (hV : RefOwn X.heap p W bl) (ho : ∀ a b, (atL bl a b).isSome = (atL W.bl a b).isSome) (hg : W.Good) (hw : X.Wf) (hhb : X.hb ≤ X.hl) : ∃ v' H', z = some (grV W.w W.h v', X.hp H') ∧ Own boolF H' v' (W.gr cl sz) ∧ (∀ i ∈ slFp v', X.heap.length ≤ i) ∧ Keep [] X.heap H' := by
  rw [← hz]
  exact r_ref08_Of hV ho hg hw hhb cl sz
theorem smoothR_of {X : Mem} {gv : SV} {W : Wd} {v : SV} {l : List (Int × Int)} {cl sz x y : Int} {z : Option (SV × Mem)} (hz : RF tb f_ref11_Smooth [grV W.w W.h gv, cellV x y, v] X = z) (hv : LiesD boolF (Hm X.heap) gv (W.gr cl sz)) (w1 : 1 ≤ W.w ∧ W.w ≤ 128) (w2 : 1 ≤ W.h ∧ W.h ≤ 128) (hl : LiesD cellF (Hm X.heap) v l) (hw : X.Wf) (hhb : X.hb ≤ X.hl) :
    ∃ v' H' e, z = some (.tup [v', .int .i64 e], X.hp H') ∧ e = (if W.smOk cl sz x y l then 0 else 1) ∧ Own cellF H' v' (if W.smOk cl sz x y l then W.smGo cl sz l.length x y l else []) ∧ (∀ i ∈ slFp v', X.heap.length ≤ i) ∧ Keep [] X.heap H' := by
  rw [← hz]
  cases hn : W.smOk cl sz x y l with
  | false =>
    obtain ⟨H', h1, h2⟩ := r_ref11_Smooth_no hv w1 w2 hl hw x y hn
    exact ⟨.nils, H', 1, h1, rfl, Own.nil _, by simp [slFp], h2⟩
  | true =>
    obtain ⟨v', H', h1, h2, h3, h4⟩ := r_ref11_Smooth hv w1 w2 hl hw hhb x y hn
    exact ⟨v', H', 0, h1, rfl, h2, h3, h4⟩
/-- What comes of a path. -/
theorem smGo_law {W : Wd} (w1 : 1 ≤ W.w ∧ W.w ≤ 128) (w2 : 1 ≤ W.h ∧ W.h ≤ 128) {cl sz : Int} : ∀ (n : Nat) (x y : Int) (l : List (Int × Int)), l.length ≤ n → l.length ≤ 16384 → W.legal cl sz x y l = true →
    (W.smGo cl sz l.length x y l).length ≤ l.length ∧ W.legal cl sz x y (W.smGo cl sz l.length x y l) = true ∧ endL x y (W.smGo cl sz l.length x y l) = endL x y l ∧ ∀ c, costGo x y c (W.smGo cl sz l.length x y l) ≤ costGo x y c l
  | 0, x, y, l, h1, h2, h3 => by
    have : l = [] := List.eq_nil_of_length_eq_zero (by omega)
    subst this
    exact ⟨Nat.le_refl _, h3, rfl, fun c => Int.le_refl _⟩
  | n + 1, x, y, l, h1, h2, h3 => by
    by_cases hnil : l.length = 0
    · have : l = [] := List.eq_nil_of_length_eq_zero hnil
      subst this
      exact ⟨Nat.le_refl _, h3, rfl, fun c => Int.le_refl _⟩
    obtain ⟨k, c, hk, b2, b3, b4⟩ := best_in h3 w1 w2 (min 32 l.length) (by omega) (by omega)
    obtain ⟨a, b⟩ := c
    dsimp only at b4
    have hle := line_le w1 w2 h3 h2 b3
    rw [smGo_cons hk b3]
    dsimp only
    have h4 := legal_at l k x y a b h3 b3
    have hok : lineOk x y a b = true := by
      rcases smGo_len w1 w2 h3 b3 with h | h
      · exact h
      · omega
    have hlw := lineP_law hok
    have hlen : (l.drop (k + 1)).length = l.length - (k + 1) := List.length_drop
    obtain ⟨i1, i2, i3, i4⟩ := smGo_law w1 w2 n a b (l.drop (k + 1)) (by omega) (by omega) h4.1
    have ht : endL x y (l.take (k + 1)) = (a, b) := by
      rw [List.take_add_one, b3, end_app]
      rfl
    have hf := legal_far _ _ _ h4.2
    rw [ht] at hf
    have hsp : l = l.take (k + 1) ++ l.drop (k + 1) := (List.take_append_drop _ _).symm
    simp only [Wd.legal, Bool.and_eq_true] at b4 i2 h4
    refine ⟨?_, ?_, ?_, fun c => ?_⟩
    · rw [List.length_append]; omega
    · simp only [Wd.legal, Bool.and_eq_true]
      refine ⟨b4.1, ?_⟩
      rw [legal_app, hlw.2.1, b4.2, i2.2]
      rfl
    · rw [end_app, hlw.2.1, i3]
      conv => rhs; rw [hsp, end_app, ht]
    · rw [cost_add _ _ _ _ _ b4.2, hlw.2.1, hlw.2.2]
      conv => rhs; rw [hsp, cost_add _ _ _ _ _ h4.2.2, ht]
      dsimp only at hf ⊢
      exact Int.le_trans (i4 _) (cost_mono _ _ _ _ _ h4.1.2 (hf.2.2 c).1)
theorem r_law15_SmoothSmooths {X : Mem} {tv bv : SV} {tiles : List Int} {bl : List Bld} (hm : MapIn X tv bv tiles bl) {v : SV} {l : List (Int × Int)} (hl : LiesD cellF (Hm X.heap) v l) (hlb : 2 * l.length * 16 ≤ two48) (hw : X.Wf) (hhb : X.hb ≤ X.hl) (w hh cl sz x y : Int) : ∃ m', RF tb f_law15_SmoothSmooths [.agg [.int .i64 w, .int .i64 hh, tv, bv], .agg [.int .i64 cl, .int .i64 sz, .int .i64 x, .int .i64 y, v]] X = some (.bool true, m') := by
  rw [RF_go t_law15_SmoothSmooths _ _ rfl, push_hp]
  simp (maxDischargeDepth := 8) only [go_sem, reduceIte, reduceCtorEq, Nat.reduceEqDiff, Nat.reduceAdd, Nat.reduceMul, Nat.reduceSub, Nat.reduceLeDiff, Nat.reduceLT, Nat.reduceBEq, Int.reduceToNat, Int.reduceEq, Int.reduceLT, Int.reduceLE, Int.reduceAdd, Int.reduceSub, Int.reduceMul, Int.reduceNeg, s_law15_SmoothSmooths, hw, hm.t.cell, hm.b.cell, hl.cell]
  generalize hz : RF tb f_law06_Both _ _ = z
  rcases both_of hz ⟨hm.t, hm.g, hm.b, hm.n⟩ (by simp (maxDischargeDepth := 8) only [go_sem, reduceIte, reduceCtorEq, Nat.reduceEqDiff, Nat.reduceAdd, Nat.reduceMul, Nat.reduceSub, Nat.reduceLeDiff, Nat.reduceLT, Nat.reduceBEq, Int.reduceToNat, Int.reduceEq, Int.reduceLT, Int.reduceLE, Int.reduceAdd, Int.reduceSub, Int.reduceMul, Int.reduceNeg, hw]) hhb with ⟨H', u, rfl, k⟩ | ⟨H', u, p, q, rfl, hO, hR, hg, k, -, -⟩
  · have hle : X.hb ≤ H'.length := by have := k.1; exact Nat.le_trans hhb this
    simp (maxDischargeDepth := 8) only [go_sem, reduceIte, reduceCtorEq, Nat.reduceEqDiff, Nat.reduceAdd, Nat.reduceMul, Nat.reduceSub, Nat.reduceLeDiff, Nat.reduceLT, Nat.reduceBEq, Int.reduceToNat, Int.reduceEq, Int.reduceLT, Int.reduceLE, Int.reduceAdd, Int.reduceSub, Int.reduceMul, Int.reduceNeg, hw, hl.cell]
    generalize hz : RF tb f_law15_awake _ _ = z
    obtain ⟨H', u, rfl, -⟩ := aw15 hz (by simp (maxDischargeDepth := 8) only [go_sem, reduceIte, reduceCtorEq, Nat.reduceEqDiff, Nat.reduceAdd, Nat.reduceMul, Nat.reduceSub, Nat.reduceLeDiff, Nat.reduceLT, Nat.reduceBEq, Int.reduceToNat, Int.reduceEq, Int.reduceLT, Int.reduceLE, Int.reduceAdd, Int.reduceSub, Int.reduceMul, Int.reduceNeg, hw]) hle
    simp (maxDischargeDepth := 8) only [go_sem, reduceIte, reduceCtorEq, Nat.reduceEqDiff, Nat.reduceAdd, Nat.reduceMul, Nat.reduceSub, Nat.reduceLeDiff, Nat.reduceLT, Nat.reduceBEq, Int.reduceToNat, Int.reduceEq, Int.reduceLT, Int.reduceLE, Int.reduceAdd, Int.reduceSub, Int.reduceMul, Int.reduceNeg, hw]
    exact ⟨_, rfl⟩
  · have hle : X.hb ≤ H'.length := by have := k.1; exact Nat.le_trans hhb this
    have hl' := hl.keep k (by simp)
    simp (maxDischargeDepth := 8) only [go_sem, reduceIte, reduceCtorEq, Nat.reduceEqDiff, Nat.reduceAdd, Nat.reduceMul, Nat.reduceSub, Nat.reduceLeDiff, Nat.reduceLT, Nat.reduceBEq, Int.reduceToNat, Int.reduceEq, Int.reduceLT, Int.reduceLE, Int.reduceAdd, Int.reduceSub, Int.reduceMul, Int.reduceNeg, hw, hl.cell, hl.len]
    by_cases h2 : (l.length : Int) > 2000
    · simp (maxDischargeDepth := 8) only [go_sem, reduceIte, reduceCtorEq, Nat.reduceEqDiff, Nat.reduceAdd, Nat.reduceMul, Nat.reduceSub, Nat.reduceLeDiff, Nat.reduceLT, Nat.reduceBEq, Int.reduceToNat, Int.reduceEq, Int.reduceLT, Int.reduceLE, Int.reduceAdd, Int.reduceSub, Int.reduceMul, Int.reduceNeg, hw, hl.cell, hl.len, show decide ((l.length : Int) > 2000) = true from decide_eq_true h2]
      generalize hz : RF tb f_law15_awake _ _ = z
      obtain ⟨H', u, rfl, -⟩ := aw15 hz (by simp (maxDischargeDepth := 8) only [go_sem, reduceIte, reduceCtorEq, Nat.reduceEqDiff, Nat.reduceAdd, Nat.reduceMul, Nat.reduceSub, Nat.reduceLeDiff, Nat.reduceLT, Nat.reduceBEq, Int.reduceToNat, Int.reduceEq, Int.reduceLT, Int.reduceLE, Int.reduceAdd, Int.reduceSub, Int.reduceMul, Int.reduceNeg, hw]) hle
      simp (maxDischargeDepth := 8) only [go_sem, reduceIte, reduceCtorEq, Nat.reduceEqDiff, Nat.reduceAdd, Nat.reduceMul, Nat.reduceSub, Nat.reduceLeDiff, Nat.reduceLT, Nat.reduceBEq, Int.reduceToNat, Int.reduceEq, Int.reduceLT, Int.reduceLE, Int.reduceAdd, Int.reduceSub, Int.reduceMul, Int.reduceNeg, hw]
      exact ⟨_, rfl⟩
    · simp (maxDischargeDepth := 8) only [go_sem, reduceIte, reduceCtorEq, Nat.reduceEqDiff, Nat.reduceAdd, Nat.reduceMul, Nat.reduceSub, Nat.reduceLeDiff, Nat.reduceLT, Nat.reduceBEq, Int.reduceToNat, Int.reduceEq, Int.reduceLT, Int.reduceLE, Int.reduceAdd, Int.reduceSub, Int.reduceMul, Int.reduceNeg, hw, hl.cell, hl.len, show decide ((l.length : Int) > 2000) = false from decide_eq_false h2]
      obtain ⟨v', H2, ha, o2, k2, o3, s1⟩ := copyC hl' hlb X hle (fun _ => true) (by simp)
      have hle2 : X.hb ≤ H2.length := by have := k2.1; omega
      simp (maxDischargeDepth := 8) only [go_sem, reduceIte, reduceCtorEq, Nat.reduceEqDiff, Nat.reduceAdd, Nat.reduceMul, Nat.reduceSub, Nat.reduceLeDiff, Nat.reduceLT, Nat.reduceBEq, Int.reduceToNat, Int.reduceEq, Int.reduceLT, Int.reduceLE, Int.reduceAdd, Int.reduceSub, Int.reduceMul, Int.reduceNeg, hw, hl.cell, hl.len, ha, s1.l]
      generalize hz : RF tb f_smooth_Smooth _ _ = z
      obtain ⟨sv, H3, e, rfl, he, o4, f4, k3⟩ := smooth_of hz (hO.keep k2 (by simp)) hg (o2.lies cellF_even) (by simp (maxDischargeDepth := 8) only [go_sem, reduceIte, reduceCtorEq, Nat.reduceEqDiff, Nat.reduceAdd, Nat.reduceMul, Nat.reduceSub, Nat.reduceLeDiff, Nat.reduceLT, Nat.reduceBEq, Int.reduceToNat, Int.reduceEq, Int.reduceLT, Int.reduceLE, Int.reduceAdd, Int.reduceSub, Int.reduceMul, Int.reduceNeg, hw]) hle2
      change Keep [] H2 H3 at k3
      subst he
      have s4 := o4.isSl cellF_even
      simp (maxDischargeDepth := 8) only [go_sem, reduceIte, reduceCtorEq, Nat.reduceEqDiff, Nat.reduceAdd, Nat.reduceMul, Nat.reduceSub, Nat.reduceLeDiff, Nat.reduceLT, Nat.reduceBEq, Int.reduceToNat, Int.reduceEq, Int.reduceLT, Int.reduceLE, Int.reduceAdd, Int.reduceSub, Int.reduceMul, Int.reduceNeg, hw, hl.cell, s1.l, s4.l]
      have w1 := hO.at_.w1
      have w2 := hO.at_.h1
      generalize hz : RF tb f_ref08_Of _ _ = z
      obtain ⟨gv, H4, rfl, o5, f5, k4⟩ := gr_of hz ((hR.keep k2 (by simp)).keep k3 (by simp)) (fun _ _ => rfl) hg (by simp (maxDischargeDepth := 8) only [go_sem, reduceIte, reduceCtorEq, Nat.reduceEqDiff, Nat.reduceAdd, Nat.reduceMul, Nat.reduceSub, Nat.reduceLeDiff, Nat.reduceLT, Nat.reduceBEq, Int.reduceToNat, Int.reduceEq, Int.reduceLT, Int.reduceLE, Int.reduceAdd, Int.reduceSub, Int.reduceMul, Int.reduceNeg, hw]) (Nat.le_refl _)
      change Keep [] H3 H4 at k4
      have s5 := o5.isSl boolF_even
      have hl4 := ((hl'.keep k2 (by simp)).keep k3 (by simp)).keep k4 (by simp)
      have hle4 : X.hb ≤ H4.length := by have := k3.1; have := k4.1; omega
      simp (maxDischargeDepth := 8) only [go_sem, reduceIte, reduceCtorEq, Nat.reduceEqDiff, Nat.reduceAdd, Nat.reduceMul, Nat.reduceSub, Nat.reduceLeDiff, Nat.reduceLT, Nat.reduceBEq, Int.reduceToNat, Int.reduceEq, Int.reduceLT, Int.reduceLE, Int.reduceAdd, Int.reduceSub, Int.reduceMul, Int.reduceNeg, hw, hl.cell, s1.l, s4.l, s5.l, s5.c, s5.k]
      generalize hz : RF tb f_ref11_Smooth _ _ = z
      obtain ⟨rv, H5, e, rfl, he, o6, f6, k5⟩ := smoothR_of hz (o5.lies boolF_even) w1 w2 hl4 (by simp (maxDischargeDepth := 8) only [go_sem, reduceIte, reduceCtorEq, Nat.reduceEqDiff, Nat.reduceAdd, Nat.reduceMul, Nat.reduceSub, Nat.reduceLeDiff, Nat.reduceLT, Nat.reduceBEq, Int.reduceToNat, Int.reduceEq, Int.reduceLT, Int.reduceLE, Int.reduceAdd, Int.reduceSub, Int.reduceMul, Int.reduceNeg, hw]) hle4
      change Keep [] H4 H5 at k5
      subst he
      have s6 := o6.isSl cellF_even
      generalize hW : (⟨w, hh, tiles, bl, []⟩ : Wd) = W at *
      have hlen : (if W.smOk cl sz x y l then W.smGo cl sz l.length x y l else []).length ≤ l.length := by
        cases hn : W.smOk cl sz x y l with
        | false => simp
        | true =>
          rw [if_pos rfl]
          simp only [Wd.smOk, Bool.and_eq_true, decide_eq_true_eq] at hn
          exact (smGo_law w1 w2 l.length x y l (Nat.le_refl _) hn.1 hn.2).1
      have hb1 : 2 * (if W.smOk cl sz x y l then W.smGo cl sz l.length x y l else []).length * 16 ≤ two48 := by
        simp only [two48] at *
        omega
      have l4 := ((o4.keep k4 (by simp)).keep k5 (by simp)).lies cellF_even
      have l2 := (((o2.keep k3 (by simp)).keep k4 (by simp)).keep k5 (by simp)).lies cellF_even
      have hle5 : X.hb ≤ H5.length := by have := k5.1; omega
      simp (maxDischargeDepth := 8) only [go_sem, reduceIte, reduceCtorEq, Nat.reduceEqDiff, Nat.reduceAdd, Nat.reduceMul, Nat.reduceSub, Nat.reduceLeDiff, Nat.reduceLT, Nat.reduceBEq, Int.reduceToNat, Int.reduceEq, Int.reduceLT, Int.reduceLE, Int.reduceAdd, Int.reduceSub, Int.reduceMul, Int.reduceNeg, hw, hl.cell, s1.l, s4.l, s6.l, show ∀ n : Int, (n == n) = true from fun n => by simp, r_ref10_Cells l4 (o6.lies cellF_even) hb1, r_ref10_Cells l2 (hl4.keep k5 (by simp)) hlb]
      generalize hz : RF tb f_law15_awake _ _ = z
      obtain ⟨H', u, rfl, -⟩ := aw15 hz (by simp (maxDischargeDepth := 8) only [go_sem, reduceIte, reduceCtorEq, Nat.reduceEqDiff, Nat.reduceAdd, Nat.reduceMul, Nat.reduceSub, Nat.reduceLeDiff, Nat.reduceLT, Nat.reduceBEq, Int.reduceToNat, Int.reduceEq, Int.reduceLT, Int.reduceLE, Int.reduceAdd, Int.reduceSub, Int.reduceMul, Int.reduceNeg, hw]) hle5
      simp (maxDischargeDepth := 8) only [go_sem, reduceIte, reduceCtorEq, Nat.reduceEqDiff, Nat.reduceAdd, Nat.reduceMul, Nat.reduceSub, Nat.reduceLeDiff, Nat.reduceLT, Nat.reduceBEq, Int.reduceToNat, Int.reduceEq, Int.reduceLT, Int.reduceLE, Int.reduceAdd, Int.reduceSub, Int.reduceMul, Int.reduceNeg, hw]
      exact ⟨_, rfl⟩
theorem law15_SmoothSmooths {P : Program} {e e' e'' : TypeId} {okB : Bl' → Prop} {okC : Int × Int → Prop} (a : MT) (b : (Int × Int) × (Int × Int) × Sl (Int × Int)) (h1 : slOk P e (inR .u8) a.2.2.1) (h2 : slOk P e' okB a.2.2.2) (hB : P.bytesOf e' = 40) (h3 : slOk P e'' okC b.2.2) (h16 : P.bytesOf e'' = 16) {n0 n1 : In} (e0 : n0.map (·.2) = rdM.blks a 0)
    (e1 : n1.map (·.2) = (Rd.pair (Rd.flat cellF) (Rd.pair (Rd.flat cellF) (Rd.slice cellF))).blks b ([] ++ n0).length) : ∃ m', RF tb f_law15_SmoothSmooths [.agg (rdM.cells a 0), .agg ((Rd.pair (Rd.flat cellF) (Rd.pair (Rd.flat cellF) (Rd.slice cellF))).cells b ([] ++ n0).length)] (In.mem ([] ++ n0 ++ n1)) = some (.bool true, m') := by
  rw [rdM_blks] at e0
  have e1 : n1.map (·.2) = slB cellF b.2.2 := by simpa [Rd.pair, Rd.flat, Rd.slice] using e1
  have hl := sl_inG cellF_even h3 (pre := [] ++ n0) (post := []) (A := []) (B := []) (by simpa using e1)
  rw [List.append_nil] at hl
  exact r_law15_SmoothSmooths (mapIn_of (pre := []) h1 h2 hB e0) hl (sl_bd h3 h16) (In.wf _) (Nat.zero_le _) _ _ _ _ _ _
end Go.Sh.T
