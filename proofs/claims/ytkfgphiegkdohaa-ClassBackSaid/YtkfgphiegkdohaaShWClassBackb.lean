import Derived.Test.YtkfgphiegkdohaaShWClassBacka
import Derived.Test.YtkfgphiegkdohaaShArg
set_option linter.all false
set_option linter.unusedVariables false
set_option linter.unusedSimpArgs false
set_option autoImplicit false
namespace Go.Sh.T
open Go.Sh
set_option maxHeartbeats 8000000
set_option maxRecDepth 20000
def Wd.steps (W : Wd) (cl sz x y d : Int) : Bool := stepOk x y d && W.stands cl sz x y && W.stands cl sz (x + turnX d) (y + turnY d) && (!sideOk x y d || (W.stands cl sz (x + turnX d) y && W.stands cl sz x (y + turnY d)))
theorem r_class_Steps {m : Mem} {p : WP} {W : Wd} (hW : WorldAt m p W) (hg : W.Good) {X : Mem} (hX : HpSub m X) (hw : X.Wf) (cl sz x y d : Int) : RF tb f_class_Steps [.ptr (.hp p.k 0) 0, .agg [.int .i64 cl, .int .i64 sz], .agg [.int .i64 x, .int .i64 y], .int .i64 d] X = some (.bool (W.steps cl sz x y d), X) := by
  rw [RF_go t_class_Steps _ _ rfl]
  simp (maxDischargeDepth := 8) only [go_sem, reduceIte, reduceCtorEq, Nat.reduceEqDiff, Nat.reduceAdd, Nat.reduceMul, Nat.reduceSub, Nat.reduceLeDiff, Nat.reduceLT, Nat.reduceBEq, Int.reduceToNat, Int.reduceEq, Int.reduceLT, Int.reduceLE, Int.reduceAdd, Int.reduceSub, Int.reduceMul, Int.reduceNeg, s_class_Steps, hw, hX, r_cell_Step, r_class_Stands hW hg]
  unfold Wd.steps
  cases h1 : stepOk x y d with
  | false => simp (maxDischargeDepth := 8) only [go_sem, reduceIte, reduceCtorEq, Nat.reduceEqDiff, Nat.reduceAdd, Nat.reduceMul, Nat.reduceSub, Nat.reduceLeDiff, Nat.reduceLT, Nat.reduceBEq, Int.reduceToNat, Int.reduceEq, Int.reduceLT, Int.reduceLE, Int.reduceAdd, Int.reduceSub, Int.reduceMul, Int.reduceNeg, hw]
  | true =>
    have ex : stepX x y d = x + turnX d := by simp [stepX, h1]
    have ey : stepY x y d = y + turnY d := by simp [stepY, h1]
    simp (maxDischargeDepth := 8) only [go_sem, reduceIte, reduceCtorEq, Nat.reduceEqDiff, Nat.reduceAdd, Nat.reduceMul, Nat.reduceSub, Nat.reduceLeDiff, Nat.reduceLT, Nat.reduceBEq, Int.reduceToNat, Int.reduceEq, Int.reduceLT, Int.reduceLE, Int.reduceAdd, Int.reduceSub, Int.reduceMul, Int.reduceNeg, hw, hX, ex, ey, r_class_Stands hW hg]
    cases h2 : W.stands cl sz x y with
    | false => simp (maxDischargeDepth := 8) only [go_sem, reduceIte, reduceCtorEq, Nat.reduceEqDiff, Nat.reduceAdd, Nat.reduceMul, Nat.reduceSub, Nat.reduceLeDiff, Nat.reduceLT, Nat.reduceBEq, Int.reduceToNat, Int.reduceEq, Int.reduceLT, Int.reduceLE, Int.reduceAdd, Int.reduceSub, Int.reduceMul, Int.reduceNeg, hw]
    | true =>
      simp (maxDischargeDepth := 8) only [go_sem, reduceIte, reduceCtorEq, Nat.reduceEqDiff, Nat.reduceAdd, Nat.reduceMul, Nat.reduceSub, Nat.reduceLeDiff, Nat.reduceLT, Nat.reduceBEq, Int.reduceToNat, Int.reduceEq, Int.reduceLT, Int.reduceLE, Int.reduceAdd, Int.reduceSub, Int.reduceMul, Int.reduceNeg, hw, hX, ex, ey, r_class_Stands hW hg]
      cases h3 : W.stands cl sz (x + turnX d) (y + turnY d) with
      | false => simp (maxDischargeDepth := 8) only [go_sem, reduceIte, reduceCtorEq, Nat.reduceEqDiff, Nat.reduceAdd, Nat.reduceMul, Nat.reduceSub, Nat.reduceLeDiff, Nat.reduceLT, Nat.reduceBEq, Int.reduceToNat, Int.reduceEq, Int.reduceLT, Int.reduceLE, Int.reduceAdd, Int.reduceSub, Int.reduceMul, Int.reduceNeg, hw]
      | true =>
        simp (maxDischargeDepth := 8) only [go_sem, reduceIte, reduceCtorEq, Nat.reduceEqDiff, Nat.reduceAdd, Nat.reduceMul, Nat.reduceSub, Nat.reduceLeDiff, Nat.reduceLT, Nat.reduceBEq, Int.reduceToNat, Int.reduceEq, Int.reduceLT, Int.reduceLE, Int.reduceAdd, Int.reduceSub, Int.reduceMul, Int.reduceNeg, hw, hX, r_cell_Sides, sideV]
        cases h4 : sideOk x y d with
        | false => simp (maxDischargeDepth := 8) only [go_sem, reduceIte, reduceCtorEq, Nat.reduceEqDiff, Nat.reduceAdd, Nat.reduceMul, Nat.reduceSub, Nat.reduceLeDiff, Nat.reduceLT, Nat.reduceBEq, Int.reduceToNat, Int.reduceEq, Int.reduceLT, Int.reduceLE, Int.reduceAdd, Int.reduceSub, Int.reduceMul, Int.reduceNeg, hw]; rfl
        | true =>
          simp (maxDischargeDepth := 8) only [go_sem, reduceIte, reduceCtorEq, Nat.reduceEqDiff, Nat.reduceAdd, Nat.reduceMul, Nat.reduceSub, Nat.reduceLeDiff, Nat.reduceLT, Nat.reduceBEq, Int.reduceToNat, Int.reduceEq, Int.reduceLT, Int.reduceLE, Int.reduceAdd, Int.reduceSub, Int.reduceMul, Int.reduceNeg, hw, hX, r_class_Stands hW hg]
          cases h5 : W.stands cl sz (x + turnX d) y with
          | false => simp (maxDischargeDepth := 8) only [go_sem, reduceIte, reduceCtorEq, Nat.reduceEqDiff, Nat.reduceAdd, Nat.reduceMul, Nat.reduceSub, Nat.reduceLeDiff, Nat.reduceLT, Nat.reduceBEq, Int.reduceToNat, Int.reduceEq, Int.reduceLT, Int.reduceLE, Int.reduceAdd, Int.reduceSub, Int.reduceMul, Int.reduceNeg, hw]; rfl
          | true => simp (maxDischargeDepth := 8) only [go_sem, reduceIte, reduceCtorEq, Nat.reduceEqDiff, Nat.reduceAdd, Nat.reduceMul, Nat.reduceSub, Nat.reduceLeDiff, Nat.reduceLT, Nat.reduceBEq, Int.reduceToNat, Int.reduceEq, Int.reduceLT, Int.reduceLE, Int.reduceAdd, Int.reduceSub, Int.reduceMul, Int.reduceNeg, hw, hX, r_class_Stands hW hg]; rfl
/-- Is a path legal? -/
def Wd.legalGo (W : Wd) (cl sz : Int) : Int → Int → List (Int × Int) → Bool
  | _, _, [] => true
  | x, y, c :: r => W.steps cl sz x y (dirR x y c.1 c.2 8) && W.legalGo cl sz c.1 c.2 r
def Wd.legal (W : Wd) (cl sz x y : Int) (l : List (Int × Int)) : Bool := W.stands cl sz x y && W.legalGo cl sz x y l
theorem r_class_Legal {m : Mem} {p : WP} {W : Wd} (hW : WorldAt m p W) (hg : W.Good) {v : SV} {l : List (Int × Int)} (hl : LiesD cellF m v l) (hb : l.length ≤ two48) {X : Mem} (hX : HpSub m X) (hw : X.Wf) (cl sz x y : Int) : RF tb f_class_Legal [.ptr (.hp p.k 0) 0, .agg [.int .i64 cl, .int .i64 sz], .agg [.int .i64 x, .int .i64 y], v] X = some (.bool (W.legal cl sz x y l), X) := by
  rw [RF_go t_class_Legal _ _ rfl]
  simp (maxDischargeDepth := 8) only [go_sem, reduceIte, reduceCtorEq, Nat.reduceEqDiff, Nat.reduceAdd, Nat.reduceMul, Nat.reduceSub, Nat.reduceLeDiff, Nat.reduceLT, Nat.reduceBEq, Int.reduceToNat, Int.reduceEq, Int.reduceLT, Int.reduceLE, Int.reduceAdd, Int.reduceSub, Int.reduceMul, Int.reduceNeg, s_class_Legal, hw, hX, r_class_Stands hW hg]
  unfold Wd.legal
  cases h1 : W.stands cl sz x y with
  | false => simp (maxDischargeDepth := 8) only [go_sem, reduceIte, reduceCtorEq, Nat.reduceEqDiff, Nat.reduceAdd, Nat.reduceMul, Nat.reduceSub, Nat.reduceLeDiff, Nat.reduceLT, Nat.reduceBEq, Int.reduceToNat, Int.reduceEq, Int.reduceLT, Int.reduceLE, Int.reduceAdd, Int.reduceSub, Int.reduceMul, Int.reduceNeg, hw]
  | true =>
    simp (maxDischargeDepth := 8) only [go_sem, reduceIte, reduceCtorEq, Nat.reduceEqDiff, Nat.reduceAdd, Nat.reduceMul, Nat.reduceSub, Nat.reduceLeDiff, Nat.reduceLT, Nat.reduceBEq, Int.reduceToNat, Int.reduceEq, Int.reduceLT, Int.reduceLE, Int.reduceAdd, Int.reduceSub, Int.reduceMul, Int.reduceNeg, hw, hl.len]
    rw [KL_keep _ _ _ (by simp (maxDischargeDepth := 8) only [go_sem, reduceIte, reduceCtorEq, Nat.reduceEqDiff, Nat.reduceAdd, Nat.reduceMul, Nat.reduceSub, Nat.reduceLeDiff, Nat.reduceLT, Nat.reduceBEq, Int.reduceToNat, Int.reduceEq, Int.reduceLT, Int.reduceLE, Int.reduceAdd, Int.reduceSub, Int.reduceMul, Int.reduceNeg, hl.lv])]
    simp (maxDischargeDepth := 8) only [go_sem, reduceIte, reduceCtorEq, Nat.reduceEqDiff, Nat.reduceAdd, Nat.reduceMul, Nat.reduceSub, Nat.reduceLeDiff, Nat.reduceLT, Nat.reduceBEq, Int.reduceToNat, Int.reduceEq, Int.reduceLT, Int.reduceLE, Int.reduceAdd, Int.reduceSub, Int.reduceMul, Int.reduceNeg]
    refine KL_indE (α := Nat × Int × Int) (fun a => l.length - a.1) (fun a => [(0, .ptr (.hp p.k 0) 0), (5, .ptr (.st X.dep 0) 0), (6, .ptr (.st X.dep 1) 0), (16, v), (17, .i l.length), (18, .int .i64 (a.1 : Int))]) (fun a => X.fr [.cells true [.int .i64 cl, .int .i64 sz], .cells true [.int .i64 a.2.1, .int .i64 a.2.2]] none)
      (fun a => a.1 ≤ l.length ∧ W.legalGo cl sz x y l = W.legalGo cl sz a.2.1 a.2.2 (l.drop a.1)) ?_ (0, x, y) ⟨Nat.zero_le _, rfl⟩
    rintro ⟨i, cx, cy⟩ ⟨hi, hI⟩ ih
    dsimp only at hi hI ⊢
    simp (maxDischargeDepth := 8) only [go_sem, reduceIte, reduceCtorEq, Nat.reduceEqDiff, Nat.reduceAdd, Nat.reduceMul, Nat.reduceSub, Nat.reduceLeDiff, Nat.reduceLT, Nat.reduceBEq, Int.reduceToNat, Int.reduceEq, Int.reduceLT, Int.reduceLE, Int.reduceAdd, Int.reduceSub, Int.reduceMul, Int.reduceNeg, hw, hl.lv, hl.len]
    by_cases hlt : i < l.length
    · have hel : l[i]? = some l[i] := List.getElem?_eq_getElem hlt
      have hdr : l.drop i = l[i] :: l.drop (i + 1) := List.drop_eq_getElem_cons hlt
      generalize l[i] = c at hel hdr
      obtain ⟨a, b⟩ := c
      rw [hdr] at hI
      have hI : W.legalGo cl sz x y l = (W.steps cl sz cx cy (dirR cx cy a b 8) && W.legalGo cl sz a b (l.drop (i + 1))) := hI
      simp (maxDischargeDepth := 8) only [go_sem, reduceIte, reduceCtorEq, Nat.reduceEqDiff, Nat.reduceAdd, Nat.reduceMul, Nat.reduceSub, Nat.reduceLeDiff, Nat.reduceLT, Nat.reduceBEq, Int.reduceToNat, Int.reduceEq, Int.reduceLT, Int.reduceLE, Int.reduceAdd, Int.reduceSub, Int.reduceMul, Int.reduceNeg, show decide ((i : Int) < (l.length : Int)) = true from decide_eq_true (by omega), hw, hX, hl.iaddrC hlt, hl.loadC hel, hl.lv, r_cell_Dir, r_class_Steps hW hg]
      cases h2 : W.steps cl sz cx cy (dirR cx cy a b 8) with
      | false =>
        rw [h2] at hI
        simp (maxDischargeDepth := 8) only [go_sem, reduceIte, reduceCtorEq, Nat.reduceEqDiff, Nat.reduceAdd, Nat.reduceMul, Nat.reduceSub, Nat.reduceLeDiff, Nat.reduceLT, Nat.reduceBEq, Int.reduceToNat, Int.reduceEq, Int.reduceLT, Int.reduceLE, Int.reduceAdd, Int.reduceSub, Int.reduceMul, Int.reduceNeg, hw, hI]
      | true =>
        rw [h2, Bool.true_and] at hI
        simp (maxDischargeDepth := 8) only [go_sem, reduceIte, reduceCtorEq, Nat.reduceEqDiff, Nat.reduceAdd, Nat.reduceMul, Nat.reduceSub, Nat.reduceLeDiff, Nat.reduceLT, Nat.reduceBEq, Int.reduceToNat, Int.reduceEq, Int.reduceLT, Int.reduceLE, Int.reduceAdd, Int.reduceSub, Int.reduceMul, Int.reduceNeg, hw, hX, hl.iaddrC hlt, hl.loadC hel, wrap_succ (show i ≤ 4611686018427387903 by simp only [two48] at hb; omega), hl.lv]
        rw [KL_keep _ _ _ (by simp (maxDischargeDepth := 8) only [go_sem, reduceIte, reduceCtorEq, Nat.reduceEqDiff, Nat.reduceAdd, Nat.reduceMul, Nat.reduceSub, Nat.reduceLeDiff, Nat.reduceLT, Nat.reduceBEq, Int.reduceToNat, Int.reduceEq, Int.reduceLT, Int.reduceLE, Int.reduceAdd, Int.reduceSub, Int.reduceMul, Int.reduceNeg, hl.lv])]
        simp (maxDischargeDepth := 8) only [go_sem, reduceIte, reduceCtorEq, Nat.reduceEqDiff, Nat.reduceAdd, Nat.reduceMul, Nat.reduceSub, Nat.reduceLeDiff, Nat.reduceLT, Nat.reduceBEq, Int.reduceToNat, Int.reduceEq, Int.reduceLT, Int.reduceLE, Int.reduceAdd, Int.reduceSub, Int.reduceMul, Int.reduceNeg]
        exact ih (i + 1, a, b) ⟨by dsimp only; omega, hI⟩ (by dsimp only; omega)
    · obtain rfl : i = l.length := by omega
      rw [List.drop_length] at hI
      simp (maxDischargeDepth := 8) only [go_sem, reduceIte, reduceCtorEq, Nat.reduceEqDiff, Nat.reduceAdd, Nat.reduceMul, Nat.reduceSub, Nat.reduceLeDiff, Nat.reduceLT, Nat.reduceBEq, Int.reduceToNat, Int.reduceEq, Int.reduceLT, Int.reduceLE, Int.reduceAdd, Int.reduceSub, Int.reduceMul, Int.reduceNeg, show decide ((l.length : Int) < (l.length : Int)) = false from decide_eq_false (by omega), hw, hI]
      rfl
def Wd.plain (w h : Int) : Wd := ⟨w, h, List.replicate (w * h).toNat 0, [], []⟩
theorem plain_good (w h : Int) : (Wd.plain w h).Good := fun x hx => by
  have := List.eq_of_mem_replicate hx
  omega
theorem plain33 : newW 3 3 (List.replicate 9 0) [] = some (Wd.plain 3 3) := by rfl
theorem p33a : (Wd.plain 3 3).steps 0 2 0 0 4 = true := by decide +kernel
theorem p33b : (Wd.plain 3 3).stands 0 2 2 0 = false := by decide +kernel
theorem r_law06_awake (X : Mem) (hw : X.Wf) (hhb : X.hb ≤ X.hl) : ∃ H' u, RF tb f_law06_awake [] X = some (.bool true, (X.hp H').es (escMin X.esc u)) ∧ Keep [] X.heap H' := by
  rw [RF_go t_law06_awake _ _ rfl, push_hp]
  generalize hH : X.heap = H
  have hHl : X.hl = H.length := by rw [← hH]; rfl
  obtain ⟨H1, hH1⟩ : ∃ H1, H ++ [(0, SBk.cells true (List.replicate 9 [SV.int IntKind.u8 0]).flatten)] = H1 := ⟨_, rfl⟩
  have own : Own byteF H1 (.sl (.hp H.length 0) 0 9 (some 9) 1) (List.replicate 9 0) := by rw [← hH1]; exact mkslV_own byteF_even H 0 9
  have k1 : Keep [] H H1 := by rw [← hH1]; exact Keep.app _ _ _
  have hn := r_grid_New (X := (X.hp H1).fr [] none) (bl := []) (own.lies byteF_even) (LiesD.nil bldF _) (by decide) (fr_wf (hp_wf hw) _ _) (by show X.hb ≤ H1.length; have := k1.1; omega) 3 3
  rw [plain33] at hn
  obtain ⟨H2, u, p, h1, hO, k2, hF⟩ := hn
  change Keep [] H1 H2 at k2
  have hg := plain_good 3 3
  simp (maxDischargeDepth := 8) only [go_sem, reduceIte, reduceCtorEq, Nat.reduceEqDiff, Nat.reduceAdd, Nat.reduceMul, Nat.reduceSub, Nat.reduceLeDiff, Nat.reduceLT, Nat.reduceBEq, Int.reduceToNat, Int.reduceEq, Int.reduceLT, Int.reduceLE, Int.reduceAdd, Int.reduceSub, Int.reduceMul, Int.reduceNeg, s_law06_awake, hw, hH, show (9 : Int) ≤ (two48 : Int) from by decide, hH1, h1, show ((0 : Int) == 0) = true from rfl, r_class_Steps hO.at_ hg, r_class_Stands hO.at_ hg, r_class_On, p33a, p33b, show onB 2 0 = false from rfl]
  exact ⟨_, _, rfl, by rw [← hH] at k1 ⊢; exact (k1.trans k2).back0⟩
theorem aw06 {X : Mem} {z : Option (SV × Mem)} (hz : RF tb f_law06_awake [] X = z) (hw : X.Wf) (hhb : X.hb ≤ X.hl) : ∃ H' u, z = some (.bool true, (X.hp H').es (escMin X.esc u)) ∧ Keep [] X.heap H' := by
  rw [← hz]
  exact r_law06_awake X hw hhb
structure MapIn (X : Mem) (tv bv : SV) (tiles : List Int) (bl : List Bld) : Prop where
  t : LiesD byteF (Hm X.heap) tv tiles
  g : ∀ t ∈ tiles, 0 ≤ t ∧ t ≤ 255
  b : LiesD bldF (Hm X.heap) bv bl
  n : bl.length ≤ two48
theorem both_of {X : Mem} {tv bv : SV} {tiles : List Int} {bl : List Bld} {w hh : Int} {z : Option (SV × Mem)} (hz : RF tb f_law06_Both [.agg [.int .i64 w, .int .i64 hh, tv, bv]] X = z) (hm : MapIn X tv bv tiles bl) (hw : X.Wf) (hhb : X.hb ≤ X.hl) :
    (∃ H' u, z = some (.tup [.nilp, .nilp, .bool false], (X.hp H').es (escMin X.esc u)) ∧ Keep [] X.heap H') ∨
    (∃ H' u p q, z = some (.tup [.ptr (.hp p.k 0) 0, .ptr (.hp q.k 0) 0, .bool true], (X.hp H').es (escMin X.esc u)) ∧
    WorldOwn H' p ⟨w, hh, tiles, bl, []⟩ ∧ RefOwn H' q ⟨w, hh, tiles, bl, []⟩ bl ∧ Wd.Good ⟨w, hh, tiles, bl, []⟩ ∧ Keep [] X.heap H' ∧ (∀ i ∈ p.fp, X.heap.length ≤ i ∧ i ∉ q.fp) ∧ (∀ i ∈ q.fp, X.heap.length ≤ i)) := by
  rw [← hz]
  cases hc : chkB w hh tiles bl with
  | false => exact .inl (r_law06_Both_no hm.t hm.g hm.b hm.n hw hhb w hh hc)
  | true =>
    right
    obtain ⟨H', u, p, q, h1, h2, h3, h4, h5, h6⟩ := r_law06_Both hm.t hm.g hm.b hm.n hw hhb w hh hc
    exact ⟨H', u, p, q, h1, h2, h3, fun x hx => ⟨(hm.g x hx).1, (chk_in hc).2.2.2.2.1 x hx⟩, h4, h5, h6⟩
/-- Rounds, each of which keeps what lies behind, or notes it. -/
inductive RoundsN (F : Tbl) (b : Bk) (P : Mem → Prop) (H : Nat) : List (List SV) → Mem → Option Nat → Mem → Option Nat → Bool → Prop
  | nil (m : Mem) (u : Option Nat) : RoundsN F b P H [] m u m u true
  | stop {x : List SV} {L : List (List SV)} {m m' : Mem} {u d : Option Nat} (h : Yields F b x m m' d false) (hp : P m') (hk : m'.hl = m.hl ∨ ∃ k, d = some k ∧ k < H) : RoundsN F b P H (x :: L) m u m' (escMin u d) false
  | next {x : List SV} {L : List (List SV)} {m m' m'' : Mem} {u d u' : Option Nat} {go : Bool} (h : Yields F b x m m' d true) (hp : P m') (hk : m'.hl = m.hl ∨ ∃ k, d = some k ∧ k < H) (t : RoundsN F b P H L m' (escMin u d) m'' u' go) : RoundsN F b P H (x :: L) m u m'' u' go
theorem noted_next {H : Nat} {m m' : Mem} {u d : Option Nat} (h : Noted H m u) (hk : m'.hl = m.hl ∨ ∃ k, d = some k ∧ k < H) : Noted H m' (escMin u d) := by
  rcases hk with hk | ⟨k, rfl, hk⟩
  · rcases h with h | ⟨j, rfl, hj⟩
    · exact .inl (hk.trans h)
    · cases d with
      | none => exact .inr ⟨j, rfl, hj⟩
      | some d => exact .inr ⟨min j d, rfl, by omega⟩
  · cases u with
    | none => exact .inr ⟨k, rfl, hk⟩
    | some j => exact .inr ⟨min j k, rfl, by omega⟩
theorem RoundsN.noted {F : Tbl} {b : Bk} {P : Mem → Prop} {H : Nat} {L : List (List SV)} {m m' : Mem} {u u' : Option Nat} {go : Bool} (h : RoundsN F b P H L m u m' u' go) (h0 : Noted H m u) : Noted H m' u' := by
  induction h with
  | nil => exact h0
  | stop _ _ hk => exact noted_next h0 hk
  | next _ _ hk _ ih => exact ih (noted_next h0 hk)
theorem RoundsN.weak {F : Tbl} {b : Bk} {P : Mem → Prop} {H H' : Nat} {L : List (List SV)} {m m' : Mem} {u u' : Option Nat} {go : Bool} (h : RoundsN F b P H L m u m' u' go) (hh : H ≤ H') : RoundsN F b P H' L m u m' u' go := by
  induction h with
  | nil => exact .nil _ _
  | stop h hp hk => exact .stop h hp (hk.imp_right fun ⟨k, h1, h2⟩ => ⟨k, h1, by omega⟩)
  | next h hp hk _ ih => exact .next h hp (hk.imp_right fun ⟨k, h1, h2⟩ => ⟨k, h1, by omega⟩) ih
theorem RoundsN.last {F : Tbl} {b : Bk} {P : Mem → Prop} {H : Nat} {L : List (List SV)} {m m' : Mem} {u u' : Option Nat} {go : Bool} (h : RoundsN F b P H L m u m' u' go) (h0 : P m) : P m' := by
  induction h with
  | nil => exact h0
  | stop _ hp => exact hp
  | next _ hp _ _ ih => exact ih hp
/-- .. by an invariant. -/
theorem roundsN_of {F : Tbl} (b : Bk) (P : Mem → Prop) (H : Nat) (I J : Nat → Mem → Option Nat → Prop) : ∀ (L : List (List SV)) (k : Nat) (m : Mem) (u : Option Nat), I k m u →
    (∀ i x m u, L[i]? = some x → I (k + i) m u → ∃ m' d go, Yields F b x m m' d go ∧ P m' ∧ (m'.hl = m.hl ∨ ∃ k, d = some k ∧ k < H) ∧ (go = true → I (k + i + 1) m' (escMin u d)) ∧ (go = false → J (k + i) m' (escMin u d))) →
    ∃ m' u' go, RoundsN F b P H L m u m' u' go ∧ (go = true → I (k + L.length) m' u') ∧ (go = false → ∃ i, i < L.length ∧ J (k + i) m' u')
  | [], k, m, u, h0, _ => ⟨m, u, true, .nil m u, fun _ => h0, fun h => (by cases h)⟩
  | x :: L, k, m, u, h0, hs => by
    obtain ⟨m', d, go, hy, hP, hk, h1, h2⟩ := hs 0 x m u rfl h0
    cases go with
    | false => exact ⟨m', _, false, .stop hy hP hk, fun h => (by cases h), fun _ => ⟨0, by simp, h2 rfl⟩⟩
    | true =>
      obtain ⟨m'', u'', go, hr, h3, h4⟩ := roundsN_of b P H I J L (k + 1) m' _ (h1 rfl) fun i y m u hi hI => by
        have := hs (i + 1) y m u (by simpa using hi) (by rw [show k + (i + 1) = k + 1 + i by omega]; exact hI)
        rw [show k + (i + 1) = k + 1 + i by omega] at this
        exact this
      refine ⟨m'', u'', go, .next hy hP hk hr, fun h => ?_, fun h => ?_⟩
      · rw [List.length_cons, show k + (L.length + 1) = k + 1 + L.length by omega]; exact h3 h
      · obtain ⟨i, hi, hJ⟩ := h4 h
        exact ⟨i + 1, by simp; omega, by rw [show k + (i + 1) = k + 1 + i by omega]; exact hJ⟩
/-- The legal steps: the last n directions. -/
def Wd.stepsF (W : Wd) (cl sz x y : Int) : Nat → List (List SV)
  | 0 => []
  | n + 1 => if W.steps cl sz x y (8 - (n + 1 : Nat)) then [.int .i64 (8 - (n + 1 : Nat)), cellV (x + turnX (8 - (n + 1 : Nat))) (y + turnY (8 - (n + 1 : Nat)))] :: W.stepsF cl sz x y n else W.stepsF cl sz x y n
theorem stands_has {W : Wd} {cl sz x y : Int} (h : W.stands cl sz x y = true) : W.has x y = true := by
  simp only [Wd.stands, Bool.and_eq_true] at h
  have h := h.1
  unfold footR at h
  split at h
  · simp only [withinB, Bool.and_eq_true] at h
    exact h.1.2
  · simp only [withinB, Bool.and_eq_true] at h
    have : mayB 0 0 0 0 = true := h.1.1
    exact absurd this (by decide)
theorem steps_ok {W : Wd} {cl sz x y d : Int} (h : W.steps cl sz x y d = true) : okAt x y 0 0 W.w W.h d = true := by
  simp only [Wd.steps, Bool.and_eq_true] at h
  have h2 := stands_has h.1.2
  unfold okAt
  rw [h.1.1.1]
  exact h2
/-- What lies where, while the steps are gone through. -/
structure ArAt (d n1 n2 n3 n4 : Nat) (p : WP) (W : Wd) (cl sz x y : Int) (m : Mem) : Prop where
  dep : m.dep = d
  wf : m.Wf
  g1 : m.get (.hp n1 0) = some (.cells true [.int .i64 x, .int .i64 y])
  g2 : m.get (.hp n2 0) = some (.cells true [.ptr (.hp p.k 0) 0])
  g3 : m.get (.hp n3 0) = some (.cells true [.int .i64 cl, .int .i64 sz])
  w : WorldAt m p W
  g4 : m.get (.hp n4 0) = some (.cells true [.int .i64 x, .int .i64 y])
  g5 : m.get (.hp (n4 + 1) 0) = some (.cells true [.int .i64 0, .int .i64 0, .int .i64 W.w, .int .i64 W.h])
theorem r_class_Around (X : Mem) (hw : X.Wf) (p : WP) (cl sz x y : Int) : RF tb f_class_Around [.ptr (.hp p.k 0) 0, .agg [.int .i64 cl, .int .i64 sz], .agg [.int .i64 x, .int .i64 y]] X = some (.fn f_class_Around_1 [] [.ptr (.hp (X.hl + 2) 0) 0, .ptr (.hp X.hl 0) 0, .ptr (.hp (X.hl + 1) 0) 0], X.hap [(0, .cells true [.ptr (.hp p.k 0) 0]), (0, .cells true [.int .i64 cl, .int .i64 sz]), (0, .cells true [.int .i64 x, .int .i64 y])]) := by
  rw [RF_go t_class_Around _ _ rfl]
  simp (maxDischargeDepth := 8) only [go_sem, reduceIte, reduceCtorEq, Nat.reduceEqDiff, Nat.reduceAdd, Nat.reduceMul, Nat.reduceSub, Nat.reduceLeDiff, Nat.reduceLT, Nat.reduceBEq, Int.reduceToNat, Int.reduceEq, Int.reduceLT, Int.reduceLE, Int.reduceAdd, Int.reduceSub, Int.reduceMul, Int.reduceNeg, s_class_Around, hw]
  rw [if_neg (by omega)]
theorem yields_deep {F : Tbl} {b : Bk} {x : List SV} {m m' : Mem} {d : Option Nat} {go : Bool} (h : Yields F b x m m' d go) (fs fs' : List (List SBk)) (f g : List SBk) (e e' u u' : Option Nat) :
    RV F (.yld b) x ((((m.frs fs e).fr f u).frs fs' e').fr g u') = some (.bool go, (((m'.frs fs e).fr f u).frs fs' e').fr g (escMin u' d)) := by
  have := h (g :: (fs' ++ f :: fs)) u'
  have e1 : ∀ m : Mem, m.frs (g :: (fs' ++ f :: fs)) u' = (((m.frs fs e).fr f u).frs fs' e').fr g u' := fun m => by simp [Mem.frs, Mem.fr]
  have e2 : m'.frs (g :: (fs' ++ f :: fs)) (escMin u' d) = (((m'.frs fs e).fr f u).frs fs' e').fr g (escMin u' d) := by simp [Mem.frs, Mem.fr]
  rw [e1, e2] at this
  exact this
theorem back_deep {m m' : Mem} {d : Option Nat} {H : Nat} (hk : m'.hl = m.hl ∨ ∃ k, d = some k ∧ k < H) (hH : H ≤ m.hl) (fs fs' : List (List SBk)) (f f' g : List SBk) (e e' u u' : Option Nat) :
    ((((m'.frs fs e).fr f' u).frs fs' e').fr g d).back (((m.frs fs e).fr f u').frs fs' e') 0 = ((m'.frs fs e).fr f' u).frs fs' (escMin e' d) := by
  simp only [Mem.back, Mem.fr, Mem.frs, List.tail_cons, Nat.zero_le, true_and]
  rcases hk with h | ⟨k, rfl, hk⟩
  · have : m'.heap.take m.heap.length = m'.heap := List.take_of_length_le (by simp only [Mem.hl] at h; omega)
    rw [this, ite_self]
  · have : escOk m.heap.length (some k) = false := by
      simp only [Mem.hl] at hH
      exact escOk_some (by omega)
    rw [this]
    rfl
/-- The frame of the steps' iterator, on top of a memory. -/
abbrev arIn (D i d n1 n2 n3 n4 : Nat) (fs : List (List SBk)) (e : Option Nat) (st : LoopState) (pd : Option Jump) (m : Mem) : Mem :=
  (m.frs fs e).fr [.cells true [.yld (.st D i)], .loop ⟨st, pd, [(1, .ptr (.hp n1 0) 0), (2, .ptr (.hp n2 0) 0), (3, .ptr (.hp n3 0) 0), (4, .ptr (.st (fs.length + d) 0) 0), (10, .fn f_cell_Around_1 [] [.ptr (.hp n4 0) 0, .ptr (.hp (n4 + 1) 0) 0])], [11, 12], s_class_Around_1_p1, s_class_Around_1_p3⟩] none
theorem around_inner {D i d n1 n2 n3 n4 H : Nat} (hD : D < d) {p : WP} {W : Wd} (hg : W.Good) {cl sz x y : Int} (fs : List (List SBk)) (e : Option Nat) (hH : H ≤ n4) : ∀ (n : Nat) (m : Mem) (u : Option Nat) (M' : Mem) (U : Option Nat) (go : Bool), n ≤ 8 → ArAt d n1 n2 n3 n4 p W cl sz x y m → Noted (n4 + 2) m u →
    RoundsN tb (.st D i) (ArAt d n1 n2 n3 n4 p W cl sz x y) H (W.stepsF cl sz x y n) m u M' U go →
    ∃ st pd, Rounds tb (.st (fs.length + d) 1) (boxes2 (fs.length + d + 1) n4 (n4 + 1) x y 0 0 W.w W.h) (n4 + 2) (aroundF x y 0 0 W.w W.h n) (arIn D i d n1 n2 n3 n4 fs e .ready none m) u (arIn D i d n1 n2 n3 n4 fs e st pd M') U go ∧ (go = true → st = .ready ∧ pd = none) ∧ (go = false → st = .done ∧ pd = some .ret)
  | 0, m, u, M', U, go, _, _, _, hR => by
    cases hR
    exact ⟨.ready, none, .nil _ _, fun _ => ⟨rfl, rfl⟩, fun h => by cases h⟩
  | n + 1, m, u, M', U, go, hn, hA, hN, hR => by
    have hP : ∀ (m : Mem) st pd, ArAt d n1 n2 n3 n4 p W cl sz x y m → boxes2 (fs.length + d + 1) n4 (n4 + 1) x y 0 0 W.w W.h (arIn D i d n1 n2 n3 n4 fs e st pd m) := fun m st pd h => by
      refine ⟨?_, fr_wf (frs_wf h.wf _ _) _ _, h.g4, h.g5⟩
      rw [arIn, fr_dep, frs_dep, h.dep]
    have hNi : ∀ (m : Mem) st pd u, Noted (n4 + 2) m u → Noted (n4 + 2) (arIn D i d n1 n2 n3 n4 fs e st pd m) u := fun m st pd u h => by
      rcases h with h | h
      · exact .inl (by rw [arIn, hl_fr, hl_frs]; exact h)
      · exact .inr h
    have hlen : n4 + 2 ≤ m.hl := by have := get_lt hA.g5; omega
    have b1 : ∀ off k, m.load (.hp n1 0) off k = partv [.int .i64 x, .int .i64 y] off k := fun off j => by rw [load_get, hA.g1]
    have b2 : ∀ off k, m.load (.hp n2 0) off k = partv [.ptr (.hp p.k 0) 0] off k := fun off j => by rw [load_get, hA.g2]
    have b3 : ∀ off k, m.load (.hp n3 0) off k = partv [.int .i64 cl, .int .i64 sz] off k := fun off j => by rw [load_get, hA.g3]
    simp only [Wd.stepsF, aroundF] at hR ⊢
    generalize hdd : (8 : Int) - ((n + 1 : Nat) : Int) = dd at *
    have hgt : ∀ fs' : List (List SBk), ∀ e' : Option Nat, ((arIn D i d n1 n2 n3 n4 fs e .ready none m).frs fs' e').get (.st (fs.length + d) 1) = some (.loop ⟨.ready, none, [(1, .ptr (.hp n1 0) 0), (2, .ptr (.hp n2 0) 0), (3, .ptr (.hp n3 0) 0), (4, .ptr (.st (fs.length + d) 0) 0), (10, .fn f_cell_Around_1 [] [.ptr (.hp n4 0) 0, .ptr (.hp (n4 + 1) 0) 0])], [11, 12], s_class_Around_1_p1, s_class_Around_1_p3⟩) := fun fs' e' => by simp (maxDischargeDepth := 8) only [go_sem, reduceIte, reduceCtorEq, Nat.reduceEqDiff, Nat.reduceAdd, Nat.reduceMul, Nat.reduceSub, Nat.reduceLeDiff, Nat.reduceLT, Nat.reduceBEq, Int.reduceToNat, Int.reduceEq, Int.reduceLT, Int.reduceLE, Int.reduceAdd, Int.reduceSub, Int.reduceMul, Int.reduceNeg, arIn, hA.dep]
    have hmy : ∀ fs' : List (List SBk), ∀ e' : Option Nat, ((arIn D i d n1 n2 n3 n4 fs e .ready none m).frs fs' e').may (.st (fs.length + d) 1) = true := fun fs' e' => by simp (maxDischargeDepth := 8) only [go_sem, reduceIte, reduceCtorEq, Nat.reduceEqDiff, Nat.reduceAdd, Nat.reduceMul, Nat.reduceSub, Nat.reduceLeDiff, Nat.reduceLT, Nat.reduceBEq, Int.reduceToNat, Int.reduceEq, Int.reduceLT, Int.reduceLE, Int.reduceAdd, Int.reduceSub, Int.reduceMul, Int.reduceNeg, arIn, hA.wf]; have := hA.wf; unfold Mem.Wf at this; rw [hA.dep] at this; simp; omega
    cases hs : W.steps cl sz x y dd with
    | false =>
      rw [if_neg (by simp [hs])] at hR
      obtain ⟨st, pd, h1, h2, h3⟩ := around_inner hD hg fs e hH n m u M' U go (by omega) hA hN hR
      cases ho : okAt x y 0 0 W.w W.h dd with
      | false => rw [if_neg (by simp)]; exact ⟨st, pd, h1, h2, h3⟩
      | true =>
        rw [if_pos rfl]
        refine ⟨st, pd, ?_, h2, h3⟩
        have hy : Yields tb (.st (fs.length + d) 1) [.int .i64 dd, cellV (x + turnX dd) (y + turnY dd)] (arIn D i d n1 n2 n3 n4 fs e .ready none m) (arIn D i d n1 n2 n3 n4 fs e .ready none m) none true := by
          intro fs' e'
          rw [RV_go (l := ⟨.ready, none, _, _, _, _⟩) _ _ _ (hgt fs' e') rfl rfl (hmy fs' e')]
          simp (maxDischargeDepth := 8) only [go_sem, reduceIte, reduceCtorEq, Nat.reduceEqDiff, Nat.reduceAdd, Nat.reduceMul, Nat.reduceSub, Nat.reduceLeDiff, Nat.reduceLT, Nat.reduceBEq, Int.reduceToNat, Int.reduceEq, Int.reduceLT, Int.reduceLE, Int.reduceAdd, Int.reduceSub, Int.reduceMul, Int.reduceNeg, arIn, hA.wf, hA.dep, b1, b2, b3, r_class_Steps hA.w hg, hs]
        have := Rounds.next (L := aroundF x y 0 0 W.w W.h n) hy (hP _ _ _ hA) (by rw [escMin_none]; exact hNi _ _ _ _ hN) (by rw [escMin_none]; exact h1)
        exact this
    | true =>
      rw [if_pos hs] at hR
      rw [if_pos (steps_ok hs)]
      cases hR with
      | stop hy hp hk =>
        rename_i d'
        refine ⟨.done, some .ret, ?_, fun h => (by cases h), fun _ => ⟨rfl, rfl⟩⟩
        have hk' : M'.hl = m.hl ∨ ∃ k, d' = some k ∧ k < n4 + 2 := hk.imp_right fun ⟨k, h1, h2⟩ => ⟨k, h1, by omega⟩
        have hy2 : Yields tb (.st (fs.length + d) 1) [.int .i64 dd, cellV (x + turnX dd) (y + turnY dd)] (arIn D i d n1 n2 n3 n4 fs e .ready none m) (arIn D i d n1 n2 n3 n4 fs e .done (some .ret) M') d' false := by
          intro fs' e'
          rw [RV_go (l := ⟨.ready, none, _, _, _, _⟩) _ _ _ (hgt fs' e') rfl rfl (hmy fs' e')]
          simp (maxDischargeDepth := 8) only [go_sem, reduceIte, reduceCtorEq, Nat.reduceEqDiff, Nat.reduceAdd, Nat.reduceMul, Nat.reduceSub, Nat.reduceLeDiff, Nat.reduceLT, Nat.reduceBEq, Int.reduceToNat, Int.reduceEq, Int.reduceLT, Int.reduceLE, Int.reduceAdd, Int.reduceSub, Int.reduceMul, Int.reduceNeg, arIn, hA.wf, hA.dep, b1, b2, b3, r_class_Steps hA.w hg, hs, yields_deep hy, hp.dep, back_deep hk' hlen]
        exact .stop hy2 (hP _ _ _ hp) (hNi _ _ _ _ (noted_next hN hk'))
      | next hy hp hk t =>
        rename_i m' d'
        have hk' : m'.hl = m.hl ∨ ∃ k, d' = some k ∧ k < n4 + 2 := hk.imp_right fun ⟨k, h1, h2⟩ => ⟨k, h1, by omega⟩
        obtain ⟨st, pd, h1, h2, h3⟩ := around_inner hD hg fs e hH n m' (escMin u d') M' U go (by omega) hp (noted_next hN hk') t
        refine ⟨st, pd, ?_, h2, h3⟩
        have hy2 : Yields tb (.st (fs.length + d) 1) [.int .i64 dd, cellV (x + turnX dd) (y + turnY dd)] (arIn D i d n1 n2 n3 n4 fs e .ready none m) (arIn D i d n1 n2 n3 n4 fs e .ready none m') d' true := by
          intro fs' e'
          rw [RV_go (l := ⟨.ready, none, _, _, _, _⟩) _ _ _ (hgt fs' e') rfl rfl (hmy fs' e')]
          simp (maxDischargeDepth := 8) only [go_sem, reduceIte, reduceCtorEq, Nat.reduceEqDiff, Nat.reduceAdd, Nat.reduceMul, Nat.reduceSub, Nat.reduceLeDiff, Nat.reduceLT, Nat.reduceBEq, Int.reduceToNat, Int.reduceEq, Int.reduceLT, Int.reduceLE, Int.reduceAdd, Int.reduceSub, Int.reduceMul, Int.reduceNeg, arIn, hA.wf, hA.dep, b1, b2, b3, r_class_Steps hA.w hg, hs, yields_deep hy, hp.dep, back_deep hk' hlen]
        exact .next hy2 (hP _ _ _ hp) (hNi _ _ _ _ (noted_next hN hk')) h1
theorem back_frs (M M' : Mem) (fs : List (List SBk)) (e U : Option Nat) (g : List SBk) : ((M'.frs fs e).fr g U).back (M.frs fs e) 0 = (M'.hp (if escOk M.hl U = true then M'.heap.take M.hl else M'.heap)).frs fs (escMin e U) := by
  simp only [Mem.back, Mem.fr, Mem.frs, List.tail_cons, Nat.zero_le, true_and, Mem.hp, Mem.hl]
  congr 1
theorem r_class_Around_1 {D i d n1 n2 n3 : Nat} (hD : D < d) {p : WP} {W : Wd} (hg : W.Good) {cl sz x y : Int} {M M' : Mem} {U : Option Nat} {go : Bool}
    (hB : ArAt d n1 n2 n3 M.hl p W cl sz x y (M.hap [(0, .cells true [.int .i64 x, .int .i64 y]), (0, .cells true [.int .i64 0, .int .i64 0, .int .i64 W.w, .int .i64 W.h])]))
    (hR : RoundsN tb (.st D i) (ArAt d n1 n2 n3 M.hl p W cl sz x y) M.hl (W.stepsF cl sz x y 8) (M.hap [(0, .cells true [.int .i64 x, .int .i64 y]), (0, .cells true [.int .i64 0, .int .i64 0, .int .i64 W.w, .int .i64 W.h])]) none M' U go)
    (hW : WorldAt M p W) (h1 : n1 < M.hl) (h2 : n2 < M.hl) (h3 : n3 < M.hl) (fs : List (List SBk)) (e : Option Nat) :
    RF tb f_class_Around_1 [.yld (.st D i), .ptr (.hp n1 0) 0, .ptr (.hp n2 0) 0, .ptr (.hp n3 0) 0] (M.frs fs e) = some (.tup [], (M'.hp (if escOk M.hl U = true then M'.heap.take M.hl else M'.heap)).frs fs (escMin e U)) := by
  rw [RF_go t_class_Around_1 _ _ rfl]
  have hdep : M.dep = d := by have := hB.dep; rwa [hap_dep] at this
  have hwf : M.Wf := hB.wf
  have b1 : ∀ off k, M.load (.hp n1 0) off k = partv [.int .i64 x, .int .i64 y] off k := fun off j => by rw [load_get, ← get_hap_lt M _ 0 h1, hB.g1]
  have b2 : ∀ off k, M.load (.hp n2 0) off k = partv [.ptr (.hp p.k 0) 0] off k := fun off j => by rw [load_get, ← get_hap_lt M _ 0 h2, hB.g2]
  have hlv : ∀ j, Bk.lv (fs.length + d) j (.st D i) = true := fun j => lv_lt (by omega)
  simp (maxDischargeDepth := 8) only [go_sem, reduceIte, reduceCtorEq, Nat.reduceEqDiff, Nat.reduceAdd, Nat.reduceMul, Nat.reduceSub, Nat.reduceLeDiff, Nat.reduceLT, Nat.reduceBEq, Int.reduceToNat, Int.reduceEq, Int.reduceLT, Int.reduceLE, Int.reduceAdd, Int.reduceSub, Int.reduceMul, Int.reduceNeg, s_class_Around_1, hwf, hdep, b1, b2, r_grid_World_All hW, hpsub_refl, r_cell_Around, hlv]
  obtain ⟨st, pd, hI, g1, g2⟩ := around_inner hD hg fs e (Nat.le_refl M.hl) 8 _ none M' U go (Nat.le_refl _) hB (.inl (hl_hap _ _)) hR
  have hbx : boxes2 (fs.length + d + 1) M.hl (M.hl + 1) x y 0 0 W.w W.h (arIn D i d n1 n2 n3 M.hl fs e .ready none (M.hap [(0, .cells true [.int .i64 x, .int .i64 y]), (0, .cells true [.int .i64 0, .int .i64 0, .int .i64 W.w, .int .i64 W.h])])) := by
    refine ⟨?_, fr_wf (frs_wf hB.wf _ _) _ _, hB.g4, hB.g5⟩
    rw [arIn, fr_dep, frs_dep, hB.dep]
  have hrun := r_cell_Around_1 (D := fs.length + d) (i := 1) (by omega) hbx (by rw [arIn, hl_fr, hl_frs, hl_hap]; exact hI) [] none
  simp (maxDischargeDepth := 8) only [go_sem, reduceIte, reduceCtorEq, Nat.reduceEqDiff, Nat.reduceAdd, Nat.reduceMul, Nat.reduceSub, Nat.reduceLeDiff, Nat.reduceLT, Nat.reduceBEq, Int.reduceToNat, Int.reduceEq, Int.reduceLT, Int.reduceLE, Int.reduceAdd, Int.reduceSub, Int.reduceMul, Int.reduceNeg, arIn] at hrun
  simp (maxDischargeDepth := 8) only [go_sem, reduceIte, reduceCtorEq, Nat.reduceEqDiff, Nat.reduceAdd, Nat.reduceMul, Nat.reduceSub, Nat.reduceLeDiff, Nat.reduceLT, Nat.reduceBEq, Int.reduceToNat, Int.reduceEq, Int.reduceLT, Int.reduceLE, Int.reduceAdd, Int.reduceSub, Int.reduceMul, Int.reduceNeg, hrun]
  have hA' := hR.last hB
  have hw' := hA'.wf
  unfold Mem.Wf at hw'
  rw [hA'.dep] at hw'
  cases go with
  | true =>
    obtain ⟨rfl, rfl⟩ := g1 rfl
    simp (maxDischargeDepth := 8) only [go_sem, reduceIte, reduceCtorEq, Nat.reduceEqDiff, Nat.reduceAdd, Nat.reduceMul, Nat.reduceSub, Nat.reduceLeDiff, Nat.reduceLT, Nat.reduceBEq, Int.reduceToNat, Int.reduceEq, Int.reduceLT, Int.reduceLE, Int.reduceAdd, Int.reduceSub, Int.reduceMul, Int.reduceNeg, hA'.dep, hA'.wf, show (M'.db ≤ fs.length + d) = True from eq_true (by omega)]
    rw [back_frs]
  | false =>
    obtain ⟨rfl, rfl⟩ := g2 rfl
    simp (maxDischargeDepth := 8) only [go_sem, reduceIte, reduceCtorEq, Nat.reduceEqDiff, Nat.reduceAdd, Nat.reduceMul, Nat.reduceSub, Nat.reduceLeDiff, Nat.reduceLT, Nat.reduceBEq, Int.reduceToNat, Int.reduceEq, Int.reduceLT, Int.reduceLE, Int.reduceAdd, Int.reduceSub, Int.reduceMul, Int.reduceNeg, hA'.dep, hA'.wf, show (M'.db ≤ fs.length + d) = True from eq_true (by omega)]
    rw [back_frs]
theorem stepsF_cons {W : Wd} {cl sz x y : Int} {v : List SV} {r : List (List SV)} : ∀ {n : Nat}, W.stepsF cl sz x y n = v :: r →
    ∃ j, j < n ∧ (∀ i, j < i → i < n → W.steps cl sz x y (8 - (i + 1 : Nat)) = false) ∧ W.steps cl sz x y (8 - (j + 1 : Nat)) = true ∧
      v = [.int .i64 (8 - (j + 1 : Nat)), cellV (x + turnX (8 - (j + 1 : Nat))) (y + turnY (8 - (j + 1 : Nat)))] ∧ r = W.stepsF cl sz x y j
  | 0, e => by cases e
  | n + 1, e => by
    unfold Wd.stepsF at e
    split at e
    · rename_i ho
      simp only [List.cons.injEq] at e
      exact ⟨n, by omega, fun i h1 h2 => by omega, ho, e.1.symm, e.2.symm⟩
    · rename_i ho
      obtain ⟨j, h1, h2, h3⟩ := stepsF_cons e
      refine ⟨j, by omega, fun i h4 h5 => ?_, h3⟩
      by_cases hi : i = n
      · subst hi; simpa using ho
      · exact h2 i h4 (by omega)
theorem stepsF_nil {W : Wd} {cl sz x y : Int} : ∀ {n : Nat}, W.stepsF cl sz x y n = [] → ∀ i, i < n → W.steps cl sz x y (8 - (i + 1 : Nat)) = false
  | 0, _, i, hi => by omega
  | n + 1, e, i, hi => by
    unfold Wd.stepsF at e
    split at e
    · cases e
    · rename_i ho
      by_cases h : i = n
      · subst h; simpa using ho
      · exact stepsF_nil e i (by omega)
theorem around_rangeZ {z : Option (SV × Mem)} {P : Prop} {D i d n1 n2 n3 : Nat} {M : Mem} (hz : RF tb f_class_Around_1 [.yld (.st D i), .ptr (.hp n1 0) 0, .ptr (.hp n2 0) 0, .ptr (.hp n3 0) 0] M = z) {p : WP} {W : Wd} (hg : W.Good) (cl sz x y : Int) (I J : Mem → Nat → Mem → Option Nat → Prop) (hD : D < d)
    (hB : ArAt d n1 n2 n3 M.hl p W cl sz x y (M.hap [(0, .cells true [.int .i64 x, .int .i64 y]), (0, .cells true [.int .i64 0, .int .i64 0, .int .i64 W.w, .int .i64 W.h])]))
    (hW : WorldAt M p W) (h1 : n1 < M.hl) (h2 : n2 < M.hl) (h3 : n3 < M.hl)
    (h0 : I (M.hap [(0, .cells true [.int .i64 x, .int .i64 y]), (0, .cells true [.int .i64 0, .int .i64 0, .int .i64 W.w, .int .i64 W.h])]) 8 (M.hap [(0, .cells true [.int .i64 x, .int .i64 y]), (0, .cells true [.int .i64 0, .int .i64 0, .int .i64 W.w, .int .i64 W.h])]) none)
    (step : ∀ M1 j j' m u, j' < j → j ≤ 8 → (∀ i, j' < i → i < j → W.steps cl sz x y (8 - (i + 1 : Nat)) = false) → W.steps cl sz x y (8 - (j' + 1 : Nat)) = true → ArAt d n1 n2 n3 M.hl p W cl sz x y m → I M1 j m u →
      ∃ m' e go, Yields tb (.st D i) [.int .i64 (8 - (j' + 1 : Nat)), cellV (x + turnX (8 - (j' + 1 : Nat))) (y + turnY (8 - (j' + 1 : Nat)))] m m' e go ∧ ArAt d n1 n2 n3 M.hl p W cl sz x y m' ∧ (m'.hl = m.hl ∨ ∃ k, e = some k ∧ k < M.hl) ∧ (go = true → I M1 j' m' (escMin u e)) ∧ (go = false → J M1 j' m' (escMin u e)))
    (fin : ∀ M1 M' U, M1 = M.hap [(0, .cells true [.int .i64 x, .int .i64 y]), (0, .cells true [.int .i64 0, .int .i64 0, .int .i64 W.w, .int .i64 W.h])] → z = some (.tup [], (M'.hp (if escOk M.hl U = true then M'.heap.take M.hl else M'.heap)).es (escMin M.esc U)) → ArAt d n1 n2 n3 M.hl p W cl sz x y M' → Noted (M.hl + 2) M' U →
      ((∃ j, j ≤ 8 ∧ (∀ i, i < j → W.steps cl sz x y (8 - (i + 1 : Nat)) = false) ∧ I M1 j M' U) ∨ ∃ j, j ≤ 8 ∧ J M1 j M' U) → P) : P := by
  obtain ⟨M1, hM1⟩ : ∃ M1, M.hap [(0, .cells true [.int .i64 x, .int .i64 y]), (0, .cells true [.int .i64 0, .int .i64 0, .int .i64 W.w, .int .i64 W.h])] = M1 := ⟨_, rfl⟩
  have hl1 : M1.hl = M.hl + 2 := by rw [← hM1, hl_hap]; rfl
  rw [hM1] at hB h0
  obtain ⟨M', U, go, hR, g1, g2⟩ := roundsN_of (F := tb) (.st D i) (ArAt d n1 n2 n3 M.hl p W cl sz x y) M.hl (fun k m u => ArAt d n1 n2 n3 M.hl p W cl sz x y m ∧ ∃ j, j ≤ 8 ∧ (W.stepsF cl sz x y 8).drop k = W.stepsF cl sz x y j ∧ I M1 j m u) (fun k m u => ∃ j, j ≤ 8 ∧ J M1 j m u) (W.stepsF cl sz x y 8) 0 M1 none ⟨hB, 8, Nat.le_refl _, rfl, h0⟩ (by
    rintro k v m u hk ⟨hA, j, hj8, hdr, hI⟩
    rw [Nat.zero_add] at hdr ⊢
    have hne : W.stepsF cl sz x y j = v :: (W.stepsF cl sz x y 8).drop (k + 1) := by
      rw [← hdr]
      have := List.drop_eq_getElem_cons (l := W.stepsF cl sz x y 8) (i := k) (List.getElem?_eq_some_iff.1 hk).1
      rw [this, (List.getElem?_eq_some_iff.1 hk).2]
    obtain ⟨j', hj1, hno, hok, rfl, hr⟩ := stepsF_cons hne
    obtain ⟨m', e, go, a1, a2, a3, a4, a5⟩ := step M1 j j' m u hj1 hj8 hno hok hA hI
    exact ⟨m', e, go, a1, a2, a3, fun h => ⟨a2, j', by omega, hr, a4 h⟩, fun h => ⟨j', by omega, a5 h⟩⟩)
  have hrun := r_class_Around_1 hD hg (by rw [hM1]; exact hB) (by rw [hM1]; exact hR) hW h1 h2 h3 [] M.esc
  rw [frs_self, hz] at hrun
  refine fin M1 M' U hM1.symm hrun (hR.last hB) ?_ ?_
  · exact (hR.weak (H' := M.hl + 2) (by omega)).noted (.inl hl1)
  · cases go with
    | true =>
      left
      obtain ⟨-, j, hj, hdr, hI⟩ := g1 rfl
      rw [Nat.zero_add, List.drop_length] at hdr
      exact ⟨j, hj, stepsF_nil hdr.symm, hI⟩
    | false =>
      right
      obtain ⟨i, -, j, hj, hJ⟩ := g2 rfl
      exact ⟨j, hj, hJ⟩
theorem isDir_in {d : Int} (h : isDir d = true) : 0 ≤ d ∧ d ≤ 7 := by simpa [isDir] using h
theorem steps_dir {W : Wd} {cl sz x y d : Int} (h : W.steps cl sz x y d = true) : stepOk x y d = true := by
  simp only [Wd.steps, Bool.and_eq_true] at h; exact h.1.1.1
theorem dirR_step {x y d : Int} (h : stepOk x y d = true) : dirR x y (x + turnX d) (y + turnY d) 8 = d := by
  have hd := isDir_in (step_in h).1
  have : d = 0 ∨ d = 1 ∨ d = 2 ∨ d = 3 ∨ d = 4 ∨ d = 5 ∨ d = 6 ∨ d = 7 := by omega
  have ht : goes x y (x + turnX d) (y + turnY d) d = true := by simp [goes, h]
  rcases this with rfl | rfl | rfl | rfl | rfl | rfl | rfl | rfl <;>
    simp only [dirR] <;> simp [goes, turnX, turnY, h] <;> first | done | (intros; omega) | skip
theorem dir8 {d : Int} (h : isDir d = true) : d = 0 ∨ d = 1 ∨ d = 2 ∨ d = 3 ∨ d = 4 ∨ d = 5 ∨ d = 6 ∨ d = 7 := by
  have := isDir_in h; omega
theorem back_turn {d : Int} (h : isDir d = true) : turnX (backP d) = - turnX d ∧ turnY (backP d) = - turnY d ∧ isDir (backP d) = true ∧ (4 ≤ backP d ↔ 4 ≤ d) := by
  rcases dir8 h with rfl | rfl | rfl | rfl | rfl | rfl | rfl | rfl <;> decide
theorem steps_back {W : Wd} {cl sz x y d : Int} (h : W.steps cl sz x y d = true) : W.steps cl sz (x + turnX d) (y + turnY d) (backP d) = true := by
  simp only [Wd.steps, Bool.and_eq_true, Bool.or_eq_true, Bool.not_eq_true'] at h ⊢
  obtain ⟨⟨⟨h1, h2⟩, h3⟩, h4⟩ := h
  have hs := step_in h1
  obtain ⟨b1, b2, b3, b4⟩ := back_turn hs.1
  rw [b1, b2, show x + turnX d + -turnX d = x by omega, show y + turnY d + -turnY d = y by omega]
  have hok : stepOk (x + turnX d) (y + turnY d) (backP d) = true := by
    unfold stepOk
    rw [b1, b2, show x + turnX d + -turnX d = x by omega, show y + turnY d + -turnY d = y by omega, b3, hs.2.1, hs.2.2]; rfl
  refine ⟨⟨⟨hok, h3⟩, h2⟩, ?_⟩
  rcases h4 with h4 | ⟨h4, h5⟩
  · left
    unfold sideOk at h4 ⊢
    rw [h1, Bool.true_and] at h4
    rw [hok, Bool.true_and]
    simp only [decide_eq_false_iff_not] at h4 ⊢
    omega
  · exact .inr ⟨h5, h4⟩
theorem stands_in {W : Wd} {cl sz x y : Int} (h : W.stands cl sz x y = true) : footR cl sz x y = (x, y, sz, sz) ∧ mayS cl sz = true ∧ mayB x y sz sz = true ∧ W.has x y = true ∧ W.has (x + sz - 1) (y + sz - 1) = true ∧ ∀ a b, hasB x y sz sz a b = true → W.free cl a b = true := by
  have hf : footR cl sz x y = (x, y, sz, sz) ∧ mayS cl sz = true ∧ mayB x y sz sz = true := by
    unfold footR
    split
    · rename_i hc; rw [Bool.and_eq_true] at hc; exact ⟨rfl, hc.1, hc.2⟩
    · rename_i hc
      unfold Wd.stands footR at h
      rw [if_neg hc] at h
      simp only [withinB, Bool.and_eq_true] at h
      exact absurd h.1.1.1 (by decide)
  unfold Wd.stands at h
  rw [hf.1] at h
  simp only [withinB, Bool.and_eq_true, Bool.not_eq_true'] at h
  obtain ⟨⟨⟨h1, h2⟩, h3⟩, h4⟩ := h
  have hl := may_last h1
  rw [hl.1, hl.2] at h3
  refine ⟨hf.1, hf.2.1, hf.2.2, h2, h3, fun a b hab => ?_⟩
  have := List.any_eq_false.1 h4 (a, b) (cellsP_mem.2 hab)
  simpa using this
theorem may_sub {x y w h w' h' : Int} (hm : mayB x y w h = true) (h1 : 1 ≤ w' ∧ w' ≤ w) (h2 : 1 ≤ h' ∧ h' ≤ h) : mayB x y w' h' = true := by
  have a1 := may_in hm
  have a2 := may_sides hm
  have a3 := may_last hm
  rw [a3.1, a3.2] at a1
  have e1 : lastX x w' = x + w' - 1 := by unfold lastX; rw [wrap_small (x := x + w') (by omega) (by omega), wrap_small (by omega) (by omega)]
  have e2 : lastX y h' = y + h' - 1 := by unfold lastX; rw [wrap_small (x := y + h') (by omega) (by omega), wrap_small (by omega) (by omega)]
  simp only [mayB, nearC, nearP, sideB, e1, e2, Bool.and_eq_true, decide_eq_true_eq]
  omega
theorem stands_of {W : Wd} {cl sz x y : Int} (h1 : mayS cl sz = true) (h2 : mayB x y sz sz = true) (h3 : W.has x y = true) (h4 : W.has (x + sz - 1) (y + sz - 1) = true) (h5 : ∀ a b, hasB x y sz sz a b = true → W.free cl a b = true) : W.stands cl sz x y = true := by
  have hf : footR cl sz x y = (x, y, sz, sz) := by unfold footR; rw [h1, h2]; rfl
  unfold Wd.stands
  rw [hf]
  have hl := may_last h2
  simp only [withinB, Bool.and_eq_true, Bool.not_eq_true', hl.1, hl.2]
  refine ⟨⟨⟨h2, h3⟩, h4⟩, ?_⟩
  rw [List.any_eq_false]
  rintro ⟨a, b⟩ hab
  simpa using h5 a b (cellsP_mem.1 hab)
theorem stands_small {W : Wd} {cl sz x y n : Int} (h : W.stands cl sz x y = true) (hn : 1 ≤ n ∧ n ≤ sz) : W.stands cl n x y = true := by
  obtain ⟨-, h1, h2, h3, h4, h5⟩ := stands_in h
  have hm := may_sub h2 hn hn
  refine stands_of ?_ hm h3 ?_ fun a b hab => h5 a b ?_
  · simp only [mayS, Bool.and_eq_true, decide_eq_true_eq] at h1 ⊢; omega
  · have a1 := has_iff.1 h3
    have a2 := has_iff.1 h4
    exact has_iff.2 ⟨a1.1, by omega⟩
  · have := has_iff.1 hab
    exact has_iff.2 ⟨h2, by omega⟩
abbrev bkM (X : Mem) (w hh cl sz x y : Int) (tv bv : SV) (p : WP) (res : Bool) (st : LoopState) (pd : Option Jump) (H : Hp) (n : Nat) (e : Option Nat) : Mem :=
  (X.hp H).fr [.cells true [.int .i64 w, .int .i64 hh, tv, bv], .cells true [.int .i64 cl, .int .i64 sz], .cells true [.int .i64 x, .int .i64 y], .cells true [.bool res], .cells true [.ptr (.hp p.k 0) 0],
    .loop ⟨st, pd, [(4, .ptr (.st X.dep 1) 0), (5, .ptr (.st X.dep 2) 0), (6, .ptr (.st X.dep 3) 0), (7, .ptr (.st X.dep 4) 0), (27, .fn f_class_Around_1 [] [.ptr (.hp (n + 2) 0) 0, .ptr (.hp n 0) 0, .ptr (.hp (n + 1) 0) 0])], [28, 29], s_law06_ClassBack_p5, s_law06_ClassBack_p7⟩] e
theorem r_law06_ClassBack {X : Mem} {tv bv : SV} {tiles : List Int} {bl : List Bld} (hm : MapIn X tv bv tiles bl) (hw : X.Wf) (hhb : X.hb ≤ X.hl) (w hh cl sz x y : Int) : ∃ m', RF tb f_law06_ClassBack [.agg [.int .i64 w, .int .i64 hh, tv, bv], .agg [.int .i64 cl, .int .i64 sz], .agg [.int .i64 x, .int .i64 y]] X = some (.bool true, m') := by
  rw [RF_go t_law06_ClassBack _ _ rfl, push_hp]
  simp (maxDischargeDepth := 8) only [go_sem, reduceIte, reduceCtorEq, Nat.reduceEqDiff, Nat.reduceAdd, Nat.reduceMul, Nat.reduceSub, Nat.reduceLeDiff, Nat.reduceLT, Nat.reduceBEq, Int.reduceToNat, Int.reduceEq, Int.reduceLT, Int.reduceLE, Int.reduceAdd, Int.reduceSub, Int.reduceMul, Int.reduceNeg, s_law06_ClassBack, hw, hm.t.cell, hm.b.cell]
  generalize hz : RF tb f_law06_awake _ _ = z
  obtain ⟨H0, u0, rfl, k0⟩ := aw06 hz (by simp (maxDischargeDepth := 8) only [go_sem, reduceIte, reduceCtorEq, Nat.reduceEqDiff, Nat.reduceAdd, Nat.reduceMul, Nat.reduceSub, Nat.reduceLeDiff, Nat.reduceLT, Nat.reduceBEq, Int.reduceToNat, Int.reduceEq, Int.reduceLT, Int.reduceLE, Int.reduceAdd, Int.reduceSub, Int.reduceMul, Int.reduceNeg, hw]) hhb
  change Keep [] X.heap H0 at k0
  have hl0 : X.hb ≤ H0.length := Nat.le_trans hhb k0.1
  simp (maxDischargeDepth := 8) only [go_sem, reduceIte, reduceCtorEq, Nat.reduceEqDiff, Nat.reduceAdd, Nat.reduceMul, Nat.reduceSub, Nat.reduceLeDiff, Nat.reduceLT, Nat.reduceBEq, Int.reduceToNat, Int.reduceEq, Int.reduceLT, Int.reduceLE, Int.reduceAdd, Int.reduceSub, Int.reduceMul, Int.reduceNeg, hw]
  generalize hz : RF tb f_law06_Both _ _ = z
  rcases both_of hz ⟨hm.t.keep k0 (by simp), hm.g, hm.b.keep k0 (by simp), hm.n⟩ (by simp (maxDischargeDepth := 8) only [go_sem, reduceIte, reduceCtorEq, Nat.reduceEqDiff, Nat.reduceAdd, Nat.reduceMul, Nat.reduceSub, Nat.reduceLeDiff, Nat.reduceLT, Nat.reduceBEq, Int.reduceToNat, Int.reduceEq, Int.reduceLT, Int.reduceLE, Int.reduceAdd, Int.reduceSub, Int.reduceMul, Int.reduceNeg, hw]) hl0 with ⟨H', u, rfl, k⟩ | ⟨H', u, p, q, rfl, hO, hR, hg, k, -, -⟩
  · have hle : X.hb ≤ H'.length := Nat.le_trans hl0 k.1
    simp (maxDischargeDepth := 8) only [go_sem, reduceIte, reduceCtorEq, Nat.reduceEqDiff, Nat.reduceAdd, Nat.reduceMul, Nat.reduceSub, Nat.reduceLeDiff, Nat.reduceLT, Nat.reduceBEq, Int.reduceToNat, Int.reduceEq, Int.reduceLT, Int.reduceLE, Int.reduceAdd, Int.reduceSub, Int.reduceMul, Int.reduceNeg, hw]
    generalize hz : RF tb f_law06_awake _ _ = z
    obtain ⟨H', u, rfl, -⟩ := aw06 hz (by simp (maxDischargeDepth := 8) only [go_sem, reduceIte, reduceCtorEq, Nat.reduceEqDiff, Nat.reduceAdd, Nat.reduceMul, Nat.reduceSub, Nat.reduceLeDiff, Nat.reduceLT, Nat.reduceBEq, Int.reduceToNat, Int.reduceEq, Int.reduceLT, Int.reduceLE, Int.reduceAdd, Int.reduceSub, Int.reduceMul, Int.reduceNeg, hw]) hle
    simp (maxDischargeDepth := 8) only [go_sem, reduceIte, reduceCtorEq, Nat.reduceEqDiff, Nat.reduceAdd, Nat.reduceMul, Nat.reduceSub, Nat.reduceLeDiff, Nat.reduceLT, Nat.reduceBEq, Int.reduceToNat, Int.reduceEq, Int.reduceLT, Int.reduceLE, Int.reduceAdd, Int.reduceSub, Int.reduceMul, Int.reduceNeg, hw]
    exact ⟨_, rfl⟩
  · have hle : X.hb ≤ H'.length := Nat.le_trans hl0 k.1
    simp (maxDischargeDepth := 8) only [go_sem, reduceIte, reduceCtorEq, Nat.reduceEqDiff, Nat.reduceAdd, Nat.reduceMul, Nat.reduceSub, Nat.reduceLeDiff, Nat.reduceLT, Nat.reduceBEq, Int.reduceToNat, Int.reduceEq, Int.reduceLT, Int.reduceLE, Int.reduceAdd, Int.reduceSub, Int.reduceMul, Int.reduceNeg, hw, r_class_Around]
    obtain ⟨HA, hHA⟩ : ∃ HA, H' ++ [(0, SBk.cells true [.ptr (.hp p.k 0) 0]), (0, .cells true [.int .i64 cl, .int .i64 sz]), (0, .cells true [.int .i64 x, .int .i64 y])] = HA := ⟨_, rfl⟩
    have kA : Keep [] H' HA := by rw [← hHA]; exact Keep.app _ _ _
    have lA : HA.length = H'.length + 3 := by rw [← hHA, List.length_append]; rfl
    have a0 : hget HA H'.length 0 = some (.cells true [.ptr (.hp p.k 0) 0]) := by rw [← hHA]; exact hget_new0 0 _
    have a1 : hget HA (H'.length + 1) 0 = some (.cells true [.int .i64 cl, .int .i64 sz]) := by rw [← hHA]; exact hget_newi 1 0 _
    have a2 : hget HA (H'.length + 2) 0 = some (.cells true [.int .i64 x, .int .i64 y]) := by rw [← hHA]; exact hget_newi 2 0 _
    have hOA := hO.keep kA (by simp)
    have hRA := hR.keep kA (by simp)
    rw [hHA]
    obtain ⟨HB, hHB⟩ : ∃ HB, HA ++ [(0, SBk.cells true [.int .i64 x, .int .i64 y]), (0, .cells true [.int .i64 0, .int .i64 0, .int .i64 w, .int .i64 hh])] = HB := ⟨_, rfl⟩
    have kB : Keep [] HA HB := by rw [← hHB]; exact Keep.app _ _ _
    have lB : HB.length = HA.length + 2 := by rw [← hHB, List.length_append]; rfl
    have b4 : hget HB HA.length 0 = some (.cells true [.int .i64 x, .int .i64 y]) := by rw [← hHB]; exact hget_new0 0 _
    have b5 : hget HB (HA.length + 1) 0 = some (.cells true [.int .i64 0, .int .i64 0, .int .i64 w, .int .i64 hh]) := by rw [← hHB]; exact hget_newi 1 0 _
    have hOB := hOA.keep kB (by simp)
    have hAr : ∀ res st pd e, ArAt (X.dep + 1) (H'.length + 2) H'.length (H'.length + 1) HA.length p ⟨w, hh, tiles, bl, []⟩ cl sz x y (bkM X w hh cl sz x y tv bv p res st pd HB H'.length e) := fun res st pd e =>
      ⟨rfl, by simp (maxDischargeDepth := 8) only [go_sem, reduceIte, reduceCtorEq, Nat.reduceEqDiff, Nat.reduceAdd, Nat.reduceMul, Nat.reduceSub, Nat.reduceLeDiff, Nat.reduceLT, Nat.reduceBEq, Int.reduceToNat, Int.reduceEq, Int.reduceLT, Int.reduceLE, Int.reduceAdd, Int.reduceSub, Int.reduceMul, Int.reduceNeg, hw], kB.get a2 (by simp), kB.get a0 (by simp), kB.get a1 (by simp), hOB.at_.sub (by simp (maxDischargeDepth := 8) only [go_sem, reduceIte, reduceCtorEq, Nat.reduceEqDiff, Nat.reduceAdd, Nat.reduceMul, Nat.reduceSub, Nat.reduceLeDiff, Nat.reduceLT, Nat.reduceBEq, Int.reduceToNat, Int.reduceEq, Int.reduceLT, Int.reduceLE, Int.reduceAdd, Int.reduceSub, Int.reduceMul, Int.reduceNeg]), b4, b5⟩
    generalize hz : RF tb f_class_Around_1 _ _ = z
    refine around_rangeZ (d := X.dep + 1) (p := p) hz hg cl sz x y (fun M1 j m v => v = none ∧ m = bkM X w hh cl sz x y tv bv p false .ready none HB H'.length (escMin u0 u)) (fun _ _ _ _ => False) (Nat.lt_succ_self _) ?_ ?_ ?_ ?_ ?_ ?_ ?_ ?_
    · have := hAr false .ready none (escMin u0 u)
      rw [bkM, ← hHB] at this
      exact this
    · exact hOA.at_.sub (by simp (maxDischargeDepth := 8) only [go_sem, reduceIte, reduceCtorEq, Nat.reduceEqDiff, Nat.reduceAdd, Nat.reduceMul, Nat.reduceSub, Nat.reduceLeDiff, Nat.reduceLT, Nat.reduceBEq, Int.reduceToNat, Int.reduceEq, Int.reduceLT, Int.reduceLE, Int.reduceAdd, Int.reduceSub, Int.reduceMul, Int.reduceNeg])
    · show H'.length + 2 < HA.length; omega
    · show H'.length < HA.length; omega
    · show H'.length + 1 < HA.length; omega
    · refine ⟨rfl, ?_⟩
      rw [bkM, ← hHB]; try rfl
    · rintro M1 j j' m u' hj hj8 hno hok hA ⟨rfl, hm'⟩
      have hd1 := steps_dir hok
      generalize hdd : (8 : Int) - ((j' + 1 : Nat) : Int) = dd at *
      refine ⟨bkM X w hh cl sz x y tv bv p false .ready none HB H'.length (escMin u0 u), none, true, ?_, hAr _ _ _ _, .inl (by rw [hm']), fun _ => ⟨rfl, rfl⟩, fun h => (by cases h)⟩
      have hstand : Wd.stands ⟨w, hh, tiles, bl, []⟩ cl sz x y = true := by simp only [Wd.steps, Bool.and_eq_true] at hok; exact hok.1.1.2
      have hbk := steps_back hok
      have hlies : LiesD cellF (Hm (HB ++ [(0, .cells true [.int .i64 (x + turnX dd), .int .i64 (y + turnY dd), .int .i64 x, .int .i64 y])])) (.sl (.hp HB.length 0) 0 2 (some 2) 2) [(x + turnX dd, y + turnY dd), (x, y)] := (own_new cellF_even HB [(x + turnX dd, y + turnY dd), (x, y)] (some 2)).lies cellF_even
      have hOC := hOB.keep (Keep.app [] HB [(0, .cells true [.int .i64 (x + turnX dd), .int .i64 (y + turnY dd), .int .i64 x, .int .i64 y])]) (by simp)
      have hleg : Wd.legal ⟨w, hh, tiles, bl, []⟩ cl sz x y [(x + turnX dd, y + turnY dd), (x, y)] = true := by
        have hb2 := steps_dir hbk
        have e2 := dirR_step hb2
        obtain ⟨b1, b2, -, -⟩ := back_turn (step_in hd1).1
        rw [b1, b2, show x + turnX dd + -turnX dd = x by omega, show y + turnY dd + -turnY dd = y by omega] at e2
        simp only [Wd.legal, Wd.legalGo, hstand, dirR_step hd1, hok, e2, hbk, Bool.and_self]
      subst hm'
      intro fs e
      rw [RV_go (l := ⟨.ready, none, _, _, _, _⟩) _ _ _ (by simp (maxDischargeDepth := 8) only [go_sem, reduceIte, reduceCtorEq, Nat.reduceEqDiff, Nat.reduceAdd, Nat.reduceMul, Nat.reduceSub, Nat.reduceLeDiff, Nat.reduceLT, Nat.reduceBEq, Int.reduceToNat, Int.reduceEq, Int.reduceLT, Int.reduceLE, Int.reduceAdd, Int.reduceSub, Int.reduceMul, Int.reduceNeg, bkM]; rfl) rfl rfl (by simp (maxDischargeDepth := 8) only [go_sem, reduceIte, reduceCtorEq, Nat.reduceEqDiff, Nat.reduceAdd, Nat.reduceMul, Nat.reduceSub, Nat.reduceLeDiff, Nat.reduceLT, Nat.reduceBEq, Int.reduceToNat, Int.reduceEq, Int.reduceLT, Int.reduceLE, Int.reduceAdd, Int.reduceSub, Int.reduceMul, Int.reduceNeg, bkM, hw])]
      simp (maxDischargeDepth := 8) only [go_sem, reduceIte, reduceCtorEq, Nat.reduceEqDiff, Nat.reduceAdd, Nat.reduceMul, Nat.reduceSub, Nat.reduceLeDiff, Nat.reduceLT, Nat.reduceBEq, Int.reduceToNat, Int.reduceEq, Int.reduceLT, Int.reduceLE, Int.reduceAdd, Int.reduceSub, Int.reduceMul, Int.reduceNeg, bkM, hw, r_ref03_Back, r_class_Steps hOB.at_ hg, hbk, r_class_Legal hOC.at_ hg hlies (show 2 ≤ two48 by decide), hleg]
    · rintro M1 M' U rfl hz' hA' hN (⟨j, hj8, hno, rfl, hm'⟩ | ⟨_, _, h⟩)
      · have hTk : HB.take HA.length = HA := by rw [← hHB]; exact List.take_left
        subst hz' hm'
        simp (maxDischargeDepth := 8) only [go_sem, reduceIte, reduceCtorEq, Nat.reduceEqDiff, Nat.reduceAdd, Nat.reduceMul, Nat.reduceSub, Nat.reduceLeDiff, Nat.reduceLT, Nat.reduceBEq, Int.reduceToNat, Int.reduceEq, Int.reduceLT, Int.reduceLE, Int.reduceAdd, Int.reduceSub, Int.reduceMul, Int.reduceNeg, bkM, hw, lB, hTk]
        have hleA : X.hb ≤ HA.length := by omega
        refine KL_ind (R := fun z => ∃ m', fin [.cell 6 none] X z = some (.bool true, m')) (α := Int) (fun d => (5 - d).toNat) (fun d => [(4, .ptr (.st X.dep 1) 0), (5, .ptr (.st X.dep 2) 0), (6, .ptr (.st X.dep 3) 0), (7, .ptr (.st X.dep 4) 0), (12, .int .i64 d)])
          (fun _ => bkM X w hh cl sz x y tv bv p false .exhausted none HA H'.length (escMin u0 u)) (fun d => 1 ≤ d ∧ d ≤ 5) ?_ 1 ⟨Int.le_refl _, by decide⟩
        rintro d ⟨hd1, hd2⟩ ih
        simp (maxDischargeDepth := 8) only [go_sem, reduceIte, reduceCtorEq, Nat.reduceEqDiff, Nat.reduceAdd, Nat.reduceMul, Nat.reduceSub, Nat.reduceLeDiff, Nat.reduceLT, Nat.reduceBEq, Int.reduceToNat, Int.reduceEq, Int.reduceLT, Int.reduceLE, Int.reduceAdd, Int.reduceSub, Int.reduceMul, Int.reduceNeg, bkM, hw]
        by_cases hlt : d ≤ 4
        · have hwd : IntKind.wrap .i64 (d + 1) = d + 1 := wrap_small (by omega) (by omega)
          simp (maxDischargeDepth := 8) only [go_sem, reduceIte, reduceCtorEq, Nat.reduceEqDiff, Nat.reduceAdd, Nat.reduceMul, Nat.reduceSub, Nat.reduceLeDiff, Nat.reduceLT, Nat.reduceBEq, Int.reduceToNat, Int.reduceEq, Int.reduceLT, Int.reduceLE, Int.reduceAdd, Int.reduceSub, Int.reduceMul, Int.reduceNeg, show decide (d ≤ 4) = true from decide_eq_true hlt, hw, r_class_Stands hOA.at_ hg]
          cases hs : Wd.stands ⟨w, hh, tiles, bl, []⟩ cl sz x y with
          | false =>
            simp (maxDischargeDepth := 8) only [go_sem, reduceIte, reduceCtorEq, Nat.reduceEqDiff, Nat.reduceAdd, Nat.reduceMul, Nat.reduceSub, Nat.reduceLeDiff, Nat.reduceLT, Nat.reduceBEq, Int.reduceToNat, Int.reduceEq, Int.reduceLT, Int.reduceLE, Int.reduceAdd, Int.reduceSub, Int.reduceMul, Int.reduceNeg, hw, hwd]
            rw [KL_keep _ _ _ (by simp (maxDischargeDepth := 8) only [go_sem, reduceIte, reduceCtorEq, Nat.reduceEqDiff, Nat.reduceAdd, Nat.reduceMul, Nat.reduceSub, Nat.reduceLeDiff, Nat.reduceLT, Nat.reduceBEq, Int.reduceToNat, Int.reduceEq, Int.reduceLT, Int.reduceLE, Int.reduceAdd, Int.reduceSub, Int.reduceMul, Int.reduceNeg])]
            simp (maxDischargeDepth := 8) only [go_sem, reduceIte, reduceCtorEq, Nat.reduceEqDiff, Nat.reduceAdd, Nat.reduceMul, Nat.reduceSub, Nat.reduceLeDiff, Nat.reduceLT, Nat.reduceBEq, Int.reduceToNat, Int.reduceEq, Int.reduceLT, Int.reduceLE, Int.reduceAdd, Int.reduceSub, Int.reduceMul, Int.reduceNeg]
            exact ih (d + 1) ⟨by omega, by omega⟩ (by omega)
          | true =>
            simp (maxDischargeDepth := 8) only [go_sem, reduceIte, reduceCtorEq, Nat.reduceEqDiff, Nat.reduceAdd, Nat.reduceMul, Nat.reduceSub, Nat.reduceLeDiff, Nat.reduceLT, Nat.reduceBEq, Int.reduceToNat, Int.reduceEq, Int.reduceLT, Int.reduceLE, Int.reduceAdd, Int.reduceSub, Int.reduceMul, Int.reduceNeg, hw]
            cases hle : decide (d ≤ sz) with
            | false =>
              simp (maxDischargeDepth := 8) only [go_sem, reduceIte, reduceCtorEq, Nat.reduceEqDiff, Nat.reduceAdd, Nat.reduceMul, Nat.reduceSub, Nat.reduceLeDiff, Nat.reduceLT, Nat.reduceBEq, Int.reduceToNat, Int.reduceEq, Int.reduceLT, Int.reduceLE, Int.reduceAdd, Int.reduceSub, Int.reduceMul, Int.reduceNeg, hw, hwd]
              rw [KL_keep _ _ _ (by simp (maxDischargeDepth := 8) only [go_sem, reduceIte, reduceCtorEq, Nat.reduceEqDiff, Nat.reduceAdd, Nat.reduceMul, Nat.reduceSub, Nat.reduceLeDiff, Nat.reduceLT, Nat.reduceBEq, Int.reduceToNat, Int.reduceEq, Int.reduceLT, Int.reduceLE, Int.reduceAdd, Int.reduceSub, Int.reduceMul, Int.reduceNeg])]
              simp (maxDischargeDepth := 8) only [go_sem, reduceIte, reduceCtorEq, Nat.reduceEqDiff, Nat.reduceAdd, Nat.reduceMul, Nat.reduceSub, Nat.reduceLeDiff, Nat.reduceLT, Nat.reduceBEq, Int.reduceToNat, Int.reduceEq, Int.reduceLT, Int.reduceLE, Int.reduceAdd, Int.reduceSub, Int.reduceMul, Int.reduceNeg]
              exact ih (d + 1) ⟨by omega, by omega⟩ (by omega)
            | true =>
              simp (maxDischargeDepth := 8) only [go_sem, reduceIte, reduceCtorEq, Nat.reduceEqDiff, Nat.reduceAdd, Nat.reduceMul, Nat.reduceSub, Nat.reduceLeDiff, Nat.reduceLT, Nat.reduceBEq, Int.reduceToNat, Int.reduceEq, Int.reduceLT, Int.reduceLE, Int.reduceAdd, Int.reduceSub, Int.reduceMul, Int.reduceNeg, hw, hwd, r_class_Stands hOA.at_ hg, stands_small hs ⟨hd1, of_decide_eq_true hle⟩]
              rw [KL_keep _ _ _ (by simp (maxDischargeDepth := 8) only [go_sem, reduceIte, reduceCtorEq, Nat.reduceEqDiff, Nat.reduceAdd, Nat.reduceMul, Nat.reduceSub, Nat.reduceLeDiff, Nat.reduceLT, Nat.reduceBEq, Int.reduceToNat, Int.reduceEq, Int.reduceLT, Int.reduceLE, Int.reduceAdd, Int.reduceSub, Int.reduceMul, Int.reduceNeg])]
              simp (maxDischargeDepth := 8) only [go_sem, reduceIte, reduceCtorEq, Nat.reduceEqDiff, Nat.reduceAdd, Nat.reduceMul, Nat.reduceSub, Nat.reduceLeDiff, Nat.reduceLT, Nat.reduceBEq, Int.reduceToNat, Int.reduceEq, Int.reduceLT, Int.reduceLE, Int.reduceAdd, Int.reduceSub, Int.reduceMul, Int.reduceNeg]
              exact ih (d + 1) ⟨by omega, by omega⟩ (by omega)
        · simp (maxDischargeDepth := 8) only [go_sem, reduceIte, reduceCtorEq, Nat.reduceEqDiff, Nat.reduceAdd, Nat.reduceMul, Nat.reduceSub, Nat.reduceLeDiff, Nat.reduceLT, Nat.reduceBEq, Int.reduceToNat, Int.reduceEq, Int.reduceLT, Int.reduceLE, Int.reduceAdd, Int.reduceSub, Int.reduceMul, Int.reduceNeg, show decide (d ≤ 4) = false from decide_eq_false hlt, hw]
          generalize hz : RF tb f_law06_awake _ _ = z
          obtain ⟨H', u, rfl, -⟩ := aw06 hz (by simp (maxDischargeDepth := 8) only [go_sem, reduceIte, reduceCtorEq, Nat.reduceEqDiff, Nat.reduceAdd, Nat.reduceMul, Nat.reduceSub, Nat.reduceLeDiff, Nat.reduceLT, Nat.reduceBEq, Int.reduceToNat, Int.reduceEq, Int.reduceLT, Int.reduceLE, Int.reduceAdd, Int.reduceSub, Int.reduceMul, Int.reduceNeg, hw]) hleA
          simp (maxDischargeDepth := 8) only [go_sem, reduceIte, reduceCtorEq, Nat.reduceEqDiff, Nat.reduceAdd, Nat.reduceMul, Nat.reduceSub, Nat.reduceLeDiff, Nat.reduceLT, Nat.reduceBEq, Int.reduceToNat, Int.reduceEq, Int.reduceLT, Int.reduceLE, Int.reduceAdd, Int.reduceSub, Int.reduceMul, Int.reduceNeg, hw]
          exact ⟨_, rfl⟩
      · cases h
section
open Go.RowKit Go.WideShapes
theorem slB_cases {α : Type} (d : Fl α) (s : Sl α) : slB d s = [] ∨ slB d s = [s.l.flatMap d.enc] := by
  unfold slB; split <;> simp
theorem blk_at {n0 : In} {L : List (List SV)} (h : n0.map (·.2) = L) {j : Nat} {c : List SV} (hj : L[j]? = some c) (pre post : In) : ∃ t, (pre ++ n0 ++ post)[pre.length + j]? = some (t, c) := by
  rw [← h, List.getElem?_map] at hj
  cases hx : n0[j]? with
  | none => rw [hx] at hj; cases hj
  | some x =>
    rw [hx] at hj
    simp only [Option.map_some, Option.some.injEq] at hj
    have hlt := (List.getElem?_eq_some_iff.1 hx).1
    refine ⟨x.1, ?_⟩
    rw [List.append_assoc, List.getElem?_append_right (Nat.le_add_right _ _), Nat.add_sub_cancel_left, List.getElem?_append_left hlt, hx, ← hj]
/-- A slice that came in. -/
theorem sl_inG {α : Type} {d : Fl α} (hd : d.Even) {P : Program} {e : TypeId} {ok : α → Prop} {s : Sl α} (hok : slOk P e ok s) {pre n0 post : In} {A B : List (List SV)} (e0 : n0.map (·.2) = A ++ slB d s ++ B) : LiesD d (In.mem (pre ++ n0 ++ post)) (slV d s (pre.length + A.length)) s.l := by
  refine lies_in hd hok.2.2.2.1 hok.2.2.2.2 ?_
  rcases slB_cases d s with h | h
  · exact .inl h
  · refine .inr ⟨_, h, ?_⟩
    rw [h] at e0
    obtain ⟨t, ht⟩ := blk_at e0 (j := A.length) (c := s.l.flatMap d.enc) (by simp) pre post
    exact In.get (x := (t, _)) ht
theorem sl_bd {α : Type} {P : Program} {e : TypeId} {ok : α → Prop} {s : Sl α} (hok : slOk P e ok s) {b : Nat} (hb : P.bytesOf e = b) : 2 * s.l.length * b ≤ two48 := by
  have := hok.2.1
  rw [hb] at this
  have h2 : 2 * s.l.length * b = 2 * (s.l.length * b) := Nat.mul_assoc _ _ _
  simp only [two48, reachBytes, maxLen] at *
  omega
abbrev Bl' := Int × ((Int × Int) × (Int × Int))
abbrev bldF' : Fl Bl' := Fl.pair (Fl.int .i64) (Fl.pair (Fl.pair (Fl.int .i64) (Fl.int .i64)) (Fl.pair (Fl.int .i64) (Fl.int .i64)))
theorem bldF'_even : bldF'.Even := ⟨fun _ => rfl⟩
def bl5 (b : Bl') : Bld := (b.1, b.2.1.1, b.2.1.2, b.2.2.1, b.2.2.2)
theorem bl5_lies {m : Mem} {v : SV} {l : List Bl'} (h : LiesD bldF' m v l) : LiesD bldF m v (l.map bl5) := by
  unfold LiesD at *
  rw [List.length_map, show (l.map bl5).flatMap bldF.enc = l.flatMap bldF'.enc by rw [List.flatMap_map]; rfl]
  exact h
abbrev MT := Int × Int × Sl Int × Sl Bl'
abbrev rdM : Rd MT := Rd.pair (Rd.flat (Fl.int .i64)) (Rd.pair (Rd.flat (Fl.int .i64)) (Rd.pair (Rd.slice byteF) (Rd.slice bldF')))
theorem rdM_blks (a : MT) (n : Nat) : rdM.blks a n = slB byteF a.2.2.1 ++ slB bldF' a.2.2.2 := by simp [rdM, Rd.pair, Rd.flat, Rd.slice]
theorem rdM_cells (a : MT) (n : Nat) : rdM.cells a n = [.int .i64 a.1, .int .i64 a.2.1, slV byteF a.2.2.1 n, slV bldF' a.2.2.2 (n + (slB byteF a.2.2.1).length)] := rfl
theorem mapIn_of {P : Program} {e e' : TypeId} {okB : Bl' → Prop} {t : Sl Int} {b : Sl Bl'} (h1 : slOk P e (inR .u8) t) (h2 : slOk P e' okB b) (hB : P.bytesOf e' = 40) {pre n0 post : In} (e0 : n0.map (·.2) = slB byteF t ++ slB bldF' b) :
    MapIn (In.mem (pre ++ n0 ++ post)) (slV byteF t pre.length) (slV bldF' b (pre.length + (slB byteF t).length)) t.l (b.l.map bl5) := by
  refine ⟨?_, fun x hx => inR_u8 (h1.2.2.1 x hx), ?_, ?_⟩
  · have := sl_inG byteF_even h1 (pre := pre) (post := post) (A := []) (B := slB bldF' b) e0
    exact this
  · have := sl_inG bldF'_even h2 (pre := pre) (post := post) (A := slB byteF t) (B := []) (by rw [List.append_nil]; exact e0)
    exact bl5_lies this
  · have := sl_bd h2 hB
    rw [List.length_map]
    omega
theorem law06_ClassBack {P : Program} {e e' : TypeId} {okB : Bl' → Prop} (a : MT) (s c : Int × Int) (h1 : slOk P e (inR .u8) a.2.2.1) (h2 : slOk P e' okB a.2.2.2) (hB : P.bytesOf e' = 40) {n0 n1 n2 : In} (e0 : n0.map (·.2) = rdM.blks a 0) : ∃ m', RF tb f_law06_ClassBack [.agg (rdM.cells a 0), .agg [.int .i64 s.1, .int .i64 s.2], .agg [.int .i64 c.1, .int .i64 c.2]] (In.mem ([] ++ n0 ++ n1 ++ n2)) = some (.bool true, m') := by
  rw [rdM_blks] at e0
  rw [rdM_cells, List.append_assoc ([] ++ n0)]
  exact r_law06_ClassBack (mapIn_of (pre := []) h1 h2 hB e0) (In.wf _) (Nat.zero_le _) _ _ _ _ _ _
end
end Go.Sh.T
