import Derived.Test.YtmejoegppiilmaaShWRouteFindsa
import Derived.Test.YtmejoegppiilmaaShArg
set_option linter.all false
set_option linter.unusedVariables false
set_option linter.unusedSimpArgs false
set_option autoImplicit false
namespace Go.Sh.T
open Go.Sh
set_option maxHeartbeats 8000000
set_option maxRecDepth 20000
abbrev boolF : Fl Bool := Fl.bool
theorem boolF_even : boolF.Even := ⟨fun _ => rfl⟩
theorem boolF_ok (l : List Bool) : SV.cellsOk 0 0 (l.flatMap boolF.enc) = true := cellsOk_flat (fun _ => rfl) l
theorem hxs_bool (l : List Bool) : SV.hxs (l.flatMap boolF.enc) = 0 := by induction l with | nil => rfl | cons a l ih => simp only [List.flatMap_cons]; exact ih
theorem _root_.Go.Sh.LiesD.iaddrT {m : Mem} {v : SV} {l : List Bool} (h : LiesD boolF m v l) {i : Int} (h0 : 0 ≤ i) (hi : i < l.length) (k : IntKind) (m' : Mem) : iaddrV 1 v (.int k i) m' = some (.ptr (.hp (slN v) (slW v)) (slO v + i.toNat), m') := by
  have := LiesD.iaddr h (i := i.toNat) (by omega) k m'
  rw [show boolF.sz = 1 from rfl, Nat.mul_one, Int.toNat_of_nonneg h0] at this
  exact this
theorem _root_.Go.Sh.LiesD.loadT {m : Mem} {v : SV} {l : List Bool} (h : LiesD boolF m v l) {i : Nat} {a : Bool} (hi : l[i]? = some a) {X : Mem} (hX : HpSub m X) : X.load (.hp (slN v) (slW v)) (slO v + i) none = some (.bool a) := by
  have := LiesD.load1 boolF_even (h.sub hX) hi (j := 0) (by decide)
  rw [show boolF.sz = 1 from rfl, Nat.mul_one, Nat.add_zero] at this
  exact this
theorem app1T {H0 H : Hp} {v : SV} {l : List Bool} (ow : Own boolF H v l) (fp : ∀ i ∈ slFp v, H0.length ≤ i) (kk : Keep [] H0 H) (hb : l.length ≤ 1000000) (X : Mem) (hhb : X.hb ≤ H0.length) (a : Bool) :
    ∃ v' H', (∀ f e, appV 1 1 [.bool false] (fun _ => true) v (.sl (.hp H.length 0) 0 1 (some 1) 1) ((X.hp (H ++ [(0, .cells true [.bool a])])).fr f e) = some (v', (X.hp H').fr f e)) ∧ Own boolF H' v' (l ++ [a]) ∧ Keep [] H0 H' ∧ (∀ i ∈ slFp v', H0.length ≤ i) ∧ IsSl v' := by
  have hyl : LiesD boolF (Hm (H ++ [(0, .cells true [.bool a])])) (.sl (.hp H.length 0) 0 1 (some 1) 1) [a] := (own_new boolF_even H [a] (some 1)).lies boolF_even
  obtain ⟨v', H2, ha, o1, o2, o3, ⟨o4, o5, o6⟩, o7⟩ := app_own boolF_even (by decide) boolF_ok hxs_bool (ow.keep (Keep.app [] H [(0, .cells true [.bool a])]) (by simp)) hyl (bytes := 1) (by simp only [List.length_singleton, two48]; omega) (by simp only [List.length_singleton, two48]; omega) X (fun i hi => by have := fp i hi; omega)
  have ha' := ha [.bool false] rfl (fun _ => true) (ow.aw (fun _ _ => rfl))
  refine ⟨v', H2, ha', o1, (kk.trans (Keep.app [] _ _)).trans' o2 (fun n hn hl => by have := fp n hn; omega), fun i hi => ?_, o1.isSl boolF_even⟩
  have := kk.1
  rcases o3 i hi with h | h
  · exact fp i h
  · rw [List.length_append] at h; omega
/-- The ground of a world for a shape. -/
def Wd.gr (W : Wd) (cl sz : Int) : List Bool := (List.range (W.w.toNat * W.h.toNat)).map fun n => W.stands cl sz ((n % W.w.toNat : Nat) : Int) ((n / W.w.toNat : Nat) : Int)
theorem gr_len (W : Wd) (cl sz : Int) : (W.gr cl sz).length = W.w.toNat * W.h.toNat := by simp [Wd.gr]
theorem gr_at {W : Wd} {cl sz : Int} {x y : Nat} (hx : x < W.w.toNat) (hy : y < W.h.toNat) : (W.gr cl sz)[y * W.w.toNat + x]? = some (W.stands cl sz x y) := by
  have h1 : y * W.w.toNat + x < W.w.toNat * W.h.toNat := by
    have : W.w.toNat * (y + 1) ≤ W.w.toNat * W.h.toNat := Nat.mul_le_mul_left _ hy
    rw [Nat.mul_add, Nat.mul_comm] at this
    omega
  have h2 : (y * W.w.toNat + x) % W.w.toNat = x := by rw [Nat.mul_comm, Nat.mul_add_mod, Nat.mod_eq_of_lt hx]
  have h3 : (y * W.w.toNat + x) / W.w.toNat = y := by rw [Nat.mul_comm, Nat.mul_add_div (by omega), Nat.div_eq_of_lt hx, Nat.add_zero]
  simp only [Wd.gr, List.getElem?_map, List.getElem?_range h1, Option.map_some, h2, h3]
abbrev grV (w h : Int) (v : SV) : SV := .agg [.int .i64 w, .int .i64 h, v]
theorem not_has {W : Wd} {x y : Int} (h : ¬ (0 ≤ x ∧ x < W.w ∧ 0 ≤ y ∧ y < W.h)) (cl sz : Int) : W.stands cl sz x y = false := by
  cases h1 : W.stands cl sz x y with
  | false => rfl
  | true =>
    have := has_in (stands_has h1)
    omega
theorem r_ref08_Ground_Stands {m : Mem} {v : SV} {W : Wd} {cl sz : Int} (hv : LiesD boolF m v (W.gr cl sz)) (w1 : 1 ≤ W.w ∧ W.w ≤ 128) (w2 : 1 ≤ W.h ∧ W.h ≤ 128) {X : Mem} (hX : HpSub m X) (hw : X.Wf) (x y : Int) : RF tb f_ref08_Ground_Stands [grV W.w W.h v, cellV x y] X = some (.bool (W.stands cl sz x y), X) := by
  rw [RF_go t_ref08_Ground_Stands _ _ rfl]
  simp (maxDischargeDepth := 8) only [go_sem, s_ref08_Ground_Stands, cellV, grV, hw, hX, hv.cell]
  by_cases c1 : 0 ≤ x
  · simp (maxDischargeDepth := 8) only [go_sem, hw, show decide (x ≥ 0) = true from decide_eq_true c1]
    by_cases c2 : x < W.w
    · simp (maxDischargeDepth := 8) only [go_sem, hw, show decide (x < W.w) = true from decide_eq_true c2]
      by_cases c3 : 0 ≤ y
      · simp (maxDischargeDepth := 8) only [go_sem, hw, show decide (y ≥ 0) = true from decide_eq_true c3]
        by_cases c4 : y < W.h
        · have e4 : W.w.toNat * W.h.toNat ≤ 128 * 128 := Nat.mul_le_mul (by omega) (by omega)
          have hat := gr_at (W := W) (cl := cl) (sz := sz) (x := x.toNat) (y := y.toNat) (by omega) (by omega)
          have hlt : y.toNat * W.w.toNat + x.toNat < (W.gr cl sz).length := by
            rcases Nat.lt_or_ge (y.toNat * W.w.toNat + x.toNat) (W.gr cl sz).length with h | h
            · exact h
            · rw [List.getElem?_eq_none h] at hat; cases hat
          rw [Int.toNat_of_nonneg c1, Int.toNat_of_nonneg c3] at hat
          rw [gr_len] at hlt
          have e5 : y * W.w = ((y.toNat * W.w.toNat : Nat) : Int) := by rw [Int.natCast_mul, Int.toNat_of_nonneg c3, Int.toNat_of_nonneg (show 0 ≤ W.w by omega)]
          have e6 : (y * W.w + x).toNat = y.toNat * W.w.toNat + x.toNat := by omega
          rw [← e6] at hat
          simp (maxDischargeDepth := 8) only [go_sem, hw, hX, show decide (y < W.h) = true from decide_eq_true c4, hv.cell, wrap_small (x := y * W.w) (by omega) (by omega), wrap_small (x := y * W.w + x) (by omega) (by omega), LiesD.iaddrT hv (i := y * W.w + x) (by omega) (by rw [gr_len]; omega), hv.loadT hat]
        · simp (maxDischargeDepth := 8) only [go_sem, hw, show decide (y < W.h) = false from decide_eq_false c4, not_has (W := W) (x := x) (y := y) (by omega) cl sz]
      · simp (maxDischargeDepth := 8) only [go_sem, hw, show decide (y ≥ 0) = false from decide_eq_false c3, not_has (W := W) (x := x) (y := y) (by omega) cl sz]
    · simp (maxDischargeDepth := 8) only [go_sem, hw, show decide (x < W.w) = false from decide_eq_false c2, not_has (W := W) (x := x) (y := y) (by omega) cl sz]
  · simp (maxDischargeDepth := 8) only [go_sem, hw, show decide (x ≥ 0) = false from decide_eq_false c1, not_has (W := W) (x := x) (y := y) (by omega) cl sz]
theorem r_ref08_Ground_Steps {m : Mem} {v : SV} {W : Wd} {cl sz : Int} (hv : LiesD boolF m v (W.gr cl sz)) (w1 : 1 ≤ W.w ∧ W.w ≤ 128) (w2 : 1 ≤ W.h ∧ W.h ≤ 128) {X : Mem} (hX : HpSub m X) (hw : X.Wf) (x y d : Int) : RF tb f_ref08_Ground_Steps [grV W.w W.h v, cellV x y, .int .i64 d] X = some (.tup [cellV (if W.steps cl sz x y d then x + turnX d else 0) (if W.steps cl sz x y d then y + turnY d else 0), .bool (W.steps cl sz x y d)], X) := by
  rw [RF_go t_ref08_Ground_Steps _ _ rfl]
  simp (maxDischargeDepth := 8) only [go_sem, s_ref08_Ground_Steps, cellV, grV, hw, hX, hv.cell, r_ref03_Step]
  unfold Wd.steps
  cases h1 : stepOk x y d with
  | false => simp (maxDischargeDepth := 8) only [go_sem, hw] <;> simp
  | true =>
    have hst := step_in h1
    simp only [stepX, stepY, h1, if_true, Bool.true_and]
    simp (maxDischargeDepth := 8) only [go_sem, hw, hX, r_ref08_Ground_Stands hv w1 w2]
    cases h2 : W.stands cl sz x y with
    | false => simp (maxDischargeDepth := 8) only [go_sem, hw] <;> simp
    | true =>
      simp (maxDischargeDepth := 8) only [go_sem, hw, hX, r_ref08_Ground_Stands hv w1 w2]
      cases h3 : W.stands cl sz (x + turnX d) (y + turnY d) with
      | false => simp (maxDischargeDepth := 8) only [go_sem, hw] <;> simp
      | true =>
        simp (maxDischargeDepth := 8) only [go_sem, hw, hX, r_ref03_Sides]
        cases h4 : sideOk x y d with
        | false => simp (maxDischargeDepth := 8) only [go_sem, hw] <;> simp
        | true =>
          simp (maxDischargeDepth := 8) only [go_sem, hw, hX, r_ref08_Ground_Stands hv w1 w2]
          cases h5 : W.stands cl sz (x + turnX d) y with
          | false => simp (maxDischargeDepth := 8) only [go_sem, hw] <;> simp
          | true =>
            simp (maxDischargeDepth := 8) only [go_sem, hw, hX, r_ref08_Ground_Stands hv w1 w2]
            cases h6 : W.stands cl sz x (y + turnY d) with
            | false => simp (maxDischargeDepth := 8) only [go_sem, hw] <;> simp
            | true => simp (maxDischargeDepth := 8) only [go_sem, hw] <;> simp
theorem gr_row {W : Wd} {cl sz : Int} {x y : Nat} (hx : x < W.w.toNat) (hy : y < W.h.toNat) : (W.gr cl sz).take (W.w.toNat * y + (x + 1)) = (W.gr cl sz).take (W.w.toNat * y + x) ++ [W.stands cl sz x y] := by
  have := gr_at (W := W) (cl := cl) (sz := sz) hx hy
  rw [Nat.mul_comm] at this
  rw [← Nat.add_assoc, List.take_add_one, this]
  rfl
theorem r_ref08_Of {X : Mem} {p : QP} {W : Wd} {bl : List Bld} (hV : RefOwn X.heap p W bl) (ho : ∀ a b, (atL bl a b).isSome = (atL W.bl a b).isSome) (hg : W.Good) (hw : X.Wf) (hhb : X.hb ≤ X.hl) (cl sz : Int) : ∃ v' H', RF tb f_ref08_Of [.ptr (.hp p.k 0) 0, .agg [.int .i64 cl, .int .i64 sz]] X = some (grV W.w W.h v', X.hp H') ∧ Own boolF H' v' (W.gr cl sz) ∧ (∀ i ∈ slFp v', X.heap.length ≤ i) ∧ Keep [] X.heap H' := by
  rw [RF_go t_ref08_Of _ _ rfl, push_hp]
  generalize hH : X.heap = H at *
  have hHl : X.hl = H.length := by rw [← hH]; rfl
  have w1 := hV.at_.w1
  have w2 := hV.at_.h1
  simp (maxDischargeDepth := 8) only [go_sem, s_ref08_Of, hw, hH, r_ref04_All hV.at_]
  rw [KL_keep _ _ _ (by simp (maxDischargeDepth := 8) only [go_sem])]
  simp (maxDischargeDepth := 8) only [go_sem]
  refine KL_ind (R := fun z => ∃ v' H', fin [.cell 4 (some 3)] X z = some (grV W.w W.h v', X.hp H') ∧ Own boolF H' v' (W.gr cl sz) ∧ (∀ i ∈ slFp v', H.length ≤ i) ∧ Keep [] H H') (α := Nat × SV × Hp) (fun q => W.h.toNat - q.1)
    (fun q => [(0, .ptr (.hp p.k 0) 0), (3, .ptr (.st X.dep 0) 0), (4, .ptr (.st X.dep 1) 0), (6, .ptr (.st X.dep 3) 0), (7, .int .i64 (q.1 : Int))])
    (fun q => (X.hp q.2.2).fr [.cells true [.int .i64 cl, .int .i64 sz], .cells true [.int .i64 0, .int .i64 0, .nils], .cells true [.int .i64 0, .int .i64 0, .int .i64 W.w, .int .i64 W.h], .cells true [.int .i64 W.w, .int .i64 W.h, q.2.1]] none)
    (fun q => q.1 ≤ W.h.toNat ∧ Own boolF q.2.2 q.2.1 ((W.gr cl sz).take (W.w.toNat * q.1)) ∧ Keep [] H q.2.2 ∧ (∀ i ∈ slFp q.2.1, H.length ≤ i)) ?_ (0, .nils, H) ⟨Nat.zero_le _, by rw [Nat.mul_zero]; exact Own.nil _, Keep.refl _ _, by simp [slFp]⟩
  rintro ⟨ky, v, Hk⟩ ⟨hky, ow, kk, fp⟩ ih
  dsimp only at hky ow kk fp ⊢
  have s1 := ow.isSl boolF_even
  simp (maxDischargeDepth := 8) only [go_sem, hw, s1.l, s1.o]
  by_cases hlt : ky < W.h.toNat
  · simp (maxDischargeDepth := 8) only [go_sem, show decide ((ky : Int) < W.h) = true from decide_eq_true (by omega), hw, s1.l, s1.o]
    rw [KL_keep _ _ _ (by simp (maxDischargeDepth := 8) only [go_sem])]
    simp (maxDischargeDepth := 8) only [go_sem]
    refine KL_ind (R := fun z => ∃ v' H', fin [.cell 4 (some 3)] X z = some (grV W.w W.h v', X.hp H') ∧ Own boolF H' v' (W.gr cl sz) ∧ (∀ i ∈ slFp v', H.length ≤ i) ∧ Keep [] H H') (α := Nat × SV × Hp) (fun q => W.w.toNat - q.1)
      (fun q => [(0, .ptr (.hp p.k 0) 0), (3, .ptr (.st X.dep 0) 0), (4, .ptr (.st X.dep 1) 0), (6, .ptr (.st X.dep 3) 0), (7, .int .i64 (ky : Int)), (8, .int .i64 (q.1 : Int))])
      (fun q => (X.hp q.2.2).fr [.cells true [.int .i64 cl, .int .i64 sz], .cells true [.int .i64 0, .int .i64 0, .nils], .cells true [.int .i64 0, .int .i64 0, .int .i64 W.w, .int .i64 W.h], .cells true [.int .i64 W.w, .int .i64 W.h, q.2.1]] none)
      (fun q => q.1 ≤ W.w.toNat ∧ Own boolF q.2.2 q.2.1 ((W.gr cl sz).take (W.w.toNat * ky + q.1)) ∧ Keep [] H q.2.2 ∧ (∀ i ∈ slFp q.2.1, H.length ≤ i)) ?_ (0, v, Hk) ⟨Nat.zero_le _, ow, kk, fp⟩
    clear ow kk fp s1
    rintro ⟨kx, v, Hk⟩ ⟨hkx, ow, kk, fp⟩ ih'
    dsimp only at hkx ow kk fp ⊢
    have s1 := ow.isSl boolF_even
    simp (maxDischargeDepth := 8) only [go_sem, hw, s1.l, s1.o]
    by_cases hlt' : kx < W.w.toNat
    · have hV' := (hV.keep kk (by simp)).at_
      have hlen : ((W.gr cl sz).take (W.w.toNat * ky + kx)).length ≤ 1000000 := by
        have e4 : W.w.toNat * W.h.toNat ≤ 128 * 128 := Nat.mul_le_mul (by omega) (by omega)
        rw [List.length_take, gr_len]
        omega
      obtain ⟨v', H2, ha, o1, k2, f2, s2⟩ := app1T ow fp kk hlen X (by omega) (W.stands cl sz kx ky)
      rw [← gr_row hlt' hlt] at o1
      simp (maxDischargeDepth := 8) only [go_sem, show decide ((kx : Int) < W.w) = true from decide_eq_true (by omega), hw, s1.l, s1.o, r_ref06_Stands hV' ho hg, ha, s2.l, s2.o, s2.c, s2.k, wrap_succ (show kx ≤ 4611686018427387903 by omega)]
      rw [KL_keep _ _ _ (by simp (maxDischargeDepth := 8) only [go_sem])]
      simp (maxDischargeDepth := 8) only [go_sem]
      exact ih' (kx + 1, v', H2) ⟨by dsimp only; omega, o1, k2, f2⟩ (by dsimp only; omega)
    · obtain rfl : kx = W.w.toNat := by omega
      simp (maxDischargeDepth := 8) only [go_sem, show decide (((W.w.toNat : Nat) : Int) < W.w) = false from decide_eq_false (by omega), hw, s1.l, s1.o, wrap_succ (show ky ≤ 4611686018427387903 by omega)]
      rw [KL_keep _ _ _ (by simp (maxDischargeDepth := 8) only [go_sem])]
      simp (maxDischargeDepth := 8) only [go_sem]
      exact ih (ky + 1, v, Hk) ⟨by dsimp only; omega, by dsimp only; rw [Nat.mul_add, Nat.mul_one]; exact ow, kk, fp⟩ (by dsimp only; omega)
  · obtain rfl : ky = W.h.toNat := by omega
    simp (maxDischargeDepth := 8) only [go_sem, show decide (((W.h.toNat : Nat) : Int) < W.h) = false from decide_eq_false (by omega), hw, s1.l, s1.o, s1.c, s1.k]
    rw [← gr_len (cl := cl) (sz := sz), List.take_length] at ow
    refine ⟨v, _, rfl, ow.congr fun i hi => fin_keep1 (.inr ?_), fp, ?_⟩
    · have := fp i hi
      rw [hx_fp hi]
      omega
    · rw [← hH] at kk ⊢
      exact kk.back1
/-- An order: what comes ahead. -/
structure OrdB {β : Type} (lt : β → β → Bool) : Prop where
  as : ∀ a b, lt a b = true → lt b a = false
  tr : ∀ a b c, lt b a = false → lt c b = false → lt c a = false
section
variable {β : Type} {lt : β → β → Bool}
theorem OrdB.rf (h : OrdB lt) (a : β) : lt a a = false := by
  cases h1 : lt a a with
  | false => rfl
  | true => rw [h.as a a h1] at h1; cases h1
def swp (L : List β) (i j : Nat) : List β := match L[i]?, L[j]? with
  | some a, some b => (L.set i b).set j a
  | _, _ => L
theorem swp_eq {L : List β} {i j : Nat} {a b : β} (hi : L[i]? = some a) (hj : L[j]? = some b) : swp L i j = (L.set i b).set j a := by simp only [swp, hi, hj]
theorem lt_of_get {L : List β} {i : Nat} {a : β} (h : L[i]? = some a) : i < L.length := by
  rcases Nat.lt_or_ge i L.length with h1 | h1
  · exact h1
  · rw [List.getElem?_eq_none h1] at h; cases h
theorem swp_len (L : List β) (i j : Nat) : (swp L i j).length = L.length := by
  unfold swp
  split <;> simp
theorem swp_perm (L : List β) (i j : Nat) : (swp L i j).Perm L := by
  unfold swp
  split
  · rename_i a b h1 h2
    have l1 := lt_of_get h1
    have l2 := lt_of_get h2
    have e1 : L[i] = a := by rw [List.getElem?_eq_getElem l1] at h1; exact Option.some.inj h1
    have e2 : L[j] = b := by rw [List.getElem?_eq_getElem l2] at h2; exact Option.some.inj h2
    rw [← e1, ← e2]
    exact List.set_set_perm l1 l2
  · exact List.Perm.refl _
theorem swp_get {L : List β} {i j : Nat} {a b : β} (hi : L[i]? = some a) (hj : L[j]? = some b) (n : Nat) : (swp L i j)[n]? = if n = j then some a else if n = i then some b else L[n]? := by
  have l1 := lt_of_get hi
  have l2 := lt_of_get hj
  rw [swp_eq hi hj, List.getElem?_set, List.getElem?_set]
  by_cases h1 : n = j
  · subst h1
    simp [l2]
  · by_cases h2 : n = i
    · subst h2
      simp [h1, Ne.symm h1, l1]
    · simp [h1, h2, Ne.symm h1, Ne.symm h2]
/-- In order, but for some. -/
def HOk (lt : β → β → Bool) (L : List β) (P : Nat → Prop) : Prop := ∀ j a b, 0 < j → P j → L[(j - 1) / 2]? = some a → L[j]? = some b → lt b a = false
def upH (lt : β → β → Bool) : Nat → Nat → List β → List β
  | 0, _, L => L
  | f + 1, i, L => if i = 0 then L else match L[i]?, L[(i - 1) / 2]? with
    | some a, some b => if lt a b then upH lt f ((i - 1) / 2) (swp L i ((i - 1) / 2)) else L
    | _, _ => L
theorem up_perm : ∀ (f i : Nat) (L : List β), (upH lt f i L).Perm L
  | 0, _, L => List.Perm.refl _
  | f + 1, i, L => by
    simp only [upH]
    split
    · exact List.Perm.refl _
    · split
      · split
        · exact (up_perm f _ _).trans (swp_perm _ _ _)
        · exact List.Perm.refl _
      · exact List.Perm.refl _
theorem up_ok (hlt : OrdB lt) : ∀ (f i : Nat) (L : List β), i < f → i < L.length → HOk lt L (fun j => j ≠ i) → (∀ j a b, 0 < j → (j - 1) / 2 = i → 0 < i → L[(i - 1) / 2]? = some a → L[j]? = some b → lt b a = false) → HOk lt (upH lt f i L) (fun _ => True)
  | 0, i, L, hf, _, _, _ => absurd hf (Nat.not_lt_zero _)
  | f + 1, i, L, hf, hi, hA, hB => by
    simp only [upH]
    by_cases h0 : i = 0
    · rw [if_pos h0]
      intro j a b hj _ h1 h2
      exact hA j a b hj (by omega) h1 h2
    · rw [if_neg h0]
      obtain ⟨a, ha⟩ : ∃ a, L[i]? = some a := ⟨_, List.getElem?_eq_getElem hi⟩
      obtain ⟨b, hb⟩ : ∃ b, L[(i - 1) / 2]? = some b := ⟨_, List.getElem?_eq_getElem (by omega)⟩
      rw [ha, hb]
      dsimp only
      by_cases hab : lt a b = true
      · rw [if_pos hab]
        have hg := swp_get ha hb
        refine up_ok hlt f ((i - 1) / 2) (swp L i ((i - 1) / 2)) (by omega) (by rw [swp_len]; omega) ?_ ?_
        · intro j x y hj hjp h1 h2
          rw [hg] at h1 h2
          rw [if_neg hjp] at h2
          by_cases hji : j = i
          · subst hji
            rw [if_pos rfl] at h1 h2
            cases h1; cases h2
            exact hlt.as _ _ hab
          · rw [if_neg hji] at h2
            by_cases hp1 : (j - 1) / 2 = (i - 1) / 2
            · rw [if_pos hp1] at h1
              cases h1
              have := hA j b y hj hji (by rw [hp1]; exact hb) h2
              exact hlt.tr _ _ _ (hlt.as _ _ hab) this
            · rw [if_neg hp1] at h1
              by_cases hp2 : (j - 1) / 2 = i
              · rw [if_pos hp2] at h1
                cases h1
                exact hB j _ y hj hp2 (by omega) hb h2
              · rw [if_neg hp2] at h1
                exact hA j x y hj hji h1 h2
        · intro j x y hj hjp hpos h1 h2
          rw [hg] at h1 h2
          rw [if_neg (by omega), if_neg (by omega)] at h1
          rw [if_neg (by omega)] at h2
          have hbx := hA ((i - 1) / 2) x b hpos (by omega) h1 hb
          by_cases hji : j = i
          · rw [if_pos hji] at h2
            cases h2
            exact hbx
          · rw [if_neg hji] at h2
            exact hlt.tr _ _ _ hbx (hA j b y hj hji (by rw [hjp]; exact hb) h2)
      · rw [if_neg hab]
        intro j x y hj _ h1 h2
        by_cases hji : j = i
        · subst hji
          rw [ha] at h2; rw [hb] at h1
          cases h1; cases h2
          simpa using hab
        · exact hA j x y hj hji h1 h2
/-- Which child is looked at. -/
def kidH (lt : β → β → Bool) (L : List β) (i : Nat) : Nat := match L[2 * i + 1]?, L[2 * i + 1 + 1]? with
  | some a, some b => if lt b a then 2 * i + 1 + 1 else 2 * i + 1
  | _, _ => 2 * i + 1
def downH (lt : β → β → Bool) : Nat → Nat → List β → List β
  | 0, _, L => L
  | f + 1, i, L => match L[kidH lt L i]?, L[i]? with
    | some a, some b => if lt a b then downH lt f (kidH lt L i) (swp L i (kidH lt L i)) else L
    | _, _ => L
theorem down_perm : ∀ (f i : Nat) (L : List β), (downH lt f i L).Perm L
  | 0, _, L => List.Perm.refl _
  | f + 1, i, L => by
    simp only [downH]
    split
    · split
      · exact (down_perm f _ _).trans (swp_perm _ _ _)
      · exact List.Perm.refl _
    · exact List.Perm.refl _
theorem kid_in (lt : β → β → Bool) (L : List β) (i : Nat) : kidH lt L i = 2 * i + 1 ∨ kidH lt L i = 2 * i + 1 + 1 := by
  unfold kidH
  split
  · split
    · exact .inr rfl
    · exact .inl rfl
  · exact .inl rfl
theorem kid_some (lt : β → β → Bool) (L : List β) (i : Nat) (h : kidH lt L i = 2 * i + 1 + 1) : 2 * i + 1 + 1 < L.length := by
  unfold kidH at h
  split at h
  · rename_i x y hx hy
    exact lt_of_get hy
  · omega
theorem kid_le (hlt : OrdB lt) {L : List β} {i : Nat} {a : β} (ha : L[kidH lt L i]? = some a) {j : Nat} {b : β} (hj : 0 < j) (hji : (j - 1) / 2 = i) (hb : L[j]? = some b) : lt b a = false := by
  have hjj : j = 2 * i + 1 ∨ j = 2 * i + 1 + 1 := by omega
  unfold kidH at ha
  split at ha
  · rename_i x y hx hy
    split at ha
    · rename_i hxy
      rw [hy] at ha; cases ha
      rcases hjj with rfl | rfl
      · rw [hx] at hb; cases hb
        exact hlt.as _ _ hxy
      · rw [hy] at hb; cases hb
        exact hlt.rf _
    · rename_i hxy
      rw [hx] at ha; cases ha
      rcases hjj with rfl | rfl
      · rw [hx] at hb; cases hb
        exact hlt.rf _
      · rw [hy] at hb; cases hb
        simpa using hxy
  · rename_i hno
    rcases hjj with rfl | rfl
    · rw [ha] at hb; cases hb
      exact hlt.rf _
    · exact absurd hb (by intro h; exact hno a b ha h)
theorem down_ok (hlt : OrdB lt) : ∀ (f i : Nat) (L : List β), L.length ≤ i + f → i < L.length → HOk lt L (fun j => (j - 1) / 2 ≠ i) → (∀ j a b, 0 < j → (j - 1) / 2 = i → 0 < i → L[(i - 1) / 2]? = some a → L[j]? = some b → lt b a = false) → HOk lt (downH lt f i L) (fun _ => True)
  | 0, i, L, hf, hi, _, _ => by omega
  | f + 1, i, L, hf, hi, hA, hB => by
    simp only [downH]
    have hk := kid_in lt L i
    have hks := kid_some lt L i
    have hkl := fun a (ha : L[kidH lt L i]? = some a) => fun j b => @kid_le β lt hlt L i a ha j b
    generalize kidH lt L i = k at hk hks hkl ⊢
    obtain ⟨b, hb⟩ : ∃ b, L[i]? = some b := ⟨_, List.getElem?_eq_getElem hi⟩
    rw [hb]
    cases ha : L[k]? with
    | none =>
      dsimp only
      intro j x y hj _ h1 h2
      by_cases hji : (j - 1) / 2 = i
      · exfalso
        have l1 := lt_of_get h2
        rcases Nat.lt_or_ge k L.length with h | h
        · rw [List.getElem?_eq_getElem h] at ha; cases ha
        · by_cases h5 : k = 2 * i + 1 + 1
          · have := hks h5; omega
          · omega
      · exact hA j x y hj hji h1 h2
    | some a =>
      dsimp only
      have hkl := hkl a ha
      by_cases hab : lt a b = true
      · rw [if_pos hab]
        have hg := swp_get hb ha
        have hkn := lt_of_get ha
        refine down_ok hlt f k (swp L i k) (by rw [swp_len]; omega) (by rw [swp_len]; exact hkn) ?_ ?_
        · intro j x y hj hjp h1 h2
          rw [hg] at h1 h2
          rw [if_neg hjp] at h1
          by_cases hjk : j = k
          · rw [if_pos hjk] at h2
            rw [if_pos (by omega)] at h1
            cases h1; cases h2
            exact hlt.as _ _ hab
          · rw [if_neg hjk] at h2
            by_cases hji : j = i
            · rw [if_pos hji] at h2
              cases h2
              subst hji
              rw [if_neg (by omega)] at h1
              exact hB k x a (by omega) (by omega) hj h1 ha
            · rw [if_neg hji] at h2
              by_cases hpi : (j - 1) / 2 = i
              · rw [if_pos hpi] at h1
                cases h1
                exact hkl j y hj hpi h2
              · rw [if_neg hpi] at h1
                exact hA j x y hj hpi h1 h2
        · intro j x y hj hjp hpos h1 h2
          rw [hg] at h1 h2
          rw [if_neg (by omega), if_pos (by omega)] at h1
          cases h1
          rw [if_neg (by omega), if_neg (by omega)] at h2
          exact hA j a y hj (by omega) (by rw [hjp]; exact ha) h2
      · rw [if_neg hab]
        intro j x y hj _ h1 h2
        by_cases hji : (j - 1) / 2 = i
        · rw [hji, hb] at h1
          cases h1
          exact hlt.tr _ _ _ (by simpa using hab) (hkl j y hj hji h2)
        · exact hA j x y hj hji h1 h2
theorem root_min (hlt : OrdB lt) {L : List β} (h : HOk lt L (fun _ => True)) {a : β} (ha : L[0]? = some a) : ∀ (n j : Nat) (b : β), j ≤ n → L[j]? = some b → lt b a = false
  | n, 0, b, _, hb => by rw [ha] at hb; cases hb; exact hlt.rf _
  | 0, j + 1, b, hj, _ => absurd hj (by omega)
  | n + 1, j + 1, b, hj, hb => by
    have l1 := lt_of_get hb
    obtain ⟨c, hc⟩ : ∃ c, L[(j + 1 - 1) / 2]? = some c := ⟨_, List.getElem?_eq_getElem (by omega)⟩
    exact hlt.tr _ _ _ (root_min hlt h ha n ((j + 1 - 1) / 2) c (by omega) hc) (h (j + 1) c b (by omega) trivial hc hb)
end
abbrev It := Int × Int × Int
def aheadI (a b : Int) : Bool := decide (a / 4 < b / 4)
def hlt (a b : It) : Bool := aheadI a.1 b.1 || (!aheadI b.1 a.1 && decide (a.2.2 < b.2.2))
def capN : SV → Bool
  | .sl _ _ _ (some _) _ => false
  | _ => true
theorem app_cap {esz bytes : Nat} {z : List SV} {aw : Bk → Bool} {x y v : SV} {m m' : Mem} (h : appV esz bytes z aw x y m = some (v, m')) (hx : capN x = true) : capN v = true := by
  unfold appV at h
  split at h
  · rename_i sl n h1 h2
    rw [Option.bind_eq_some_iff] at h
    obtain ⟨new, _, h⟩ := h
    split at h
    · cases h; exact hx
    · split at h
      · split at h
        · rw [Option.map_eq_some_iff] at h
          obtain ⟨q, _, h⟩ := h
          cases h; rfl
        · rw [Option.map_eq_some_iff] at h
          obtain ⟨q, _, h⟩ := h
          cases h; rfl
        · rw [Option.bind_eq_some_iff] at h
          obtain ⟨old, _, h⟩ := h
          split at h
          · split at h
            · rw [Option.map_eq_some_iff] at h
              obtain ⟨q, _, h⟩ := h
              cases h; rfl
            · split at h
              · split at h
                · cases h; rfl
                · cases h
              · cases h
          · cases h
        · cases h
      · cases h
  · cases h
theorem own_take {α : Type} {d : Fl α} (hd : d.Even) {H : Hp} {v : SV} {l : List α} (h : Own d H v l) {hi : Nat} (hl : hi ≤ l.length) : Own d H (takeV hi v) (l.take hi) := by
  rcases h with ⟨rfl, rfl⟩ | ⟨rfl, rfl⟩ | ⟨k, w, off, cap, c, rfl, h1, h2, h3⟩
  · exact .inl ⟨rfl, by simp⟩
  · exact .inr (.inl ⟨rfl, by simp⟩)
  · have hle : hi * d.sz ≤ l.length * d.sz := Nat.mul_le_mul_right _ hl
    refine .inr (.inr ⟨k, w, off, cap, c, ?_, h1, ?_, ?_⟩)
    · rw [List.length_take, Nat.min_eq_left hl]; rfl
    · rw [List.length_take, Nat.min_eq_left hl]; omega
    · rw [List.length_take, Nat.min_eq_left hl]
      have e1 : (l.flatMap d.enc).take (hi * d.sz) = (l.take hi).flatMap d.enc := by
        conv => lhs; rw [← List.take_append_drop hi l, List.flatMap_append]
        rw [List.take_left']
        rw [flat_len hd, List.length_take, Nat.min_eq_left hl]
      rw [← e1, ← h3, List.take_take, Nat.min_eq_left hle]
theorem takeV_fp (hi : Nat) (v : SV) : slFp (takeV hi v) = slFp v := by
  cases v with
  | sl b off len cap z => cases b <;> rfl
  | _ => rfl
theorem takeV_cap (hi : Nat) (v : SV) (h : capN v = true) : capN (takeV hi v) = true := by
  cases v with
  | sl b off len cap z => cases cap <;> first | rfl | exact h
  | _ => rfl
/-- Popping: the plain act. -/
def popL (L : List It) : List It := match L[L.length - 1]? with
  | some x => downH hlt L.length 0 ((L.set 0 x).take (L.length - 1))
  | none => []
theorem u1 : upH hlt 1 0 [((9 : Int), (0 : Int), (0 : Int))] = [(9, 0, 0)] := by decide +kernel
theorem u2 : upH hlt 2 1 [((9 : Int), (0 : Int), (0 : Int)), (1, 0, 1)] = [(1, 0, 1), (9, 0, 0)] := by decide +kernel
theorem u3 : popL [((1 : Int), (0 : Int), (1 : Int)), (9, 0, 0)] = [(9, 0, 0)] := by decide +kernel
theorem back_frsD (M M₀ : Mem) (fs : List (List SBk)) (e u : Option Nat) (g : List SBk) : ((M.frs fs e).fr g u).back (M₀.frs fs e) 0 = (M.hp (if escOk M₀.hl u = true then M.heap.take M₀.hl else M.heap)).frs fs (escMin e u) := by
  simp only [Mem.back, Mem.fr, Mem.frs, List.tail_cons, Nat.zero_le, true_and, Mem.hp, Mem.hl]
  rfl
abbrev Rt := Int × Int × Int × Int × Int
abbrev rtF : Fl Rt := Fl.pair (Fl.int .i64) (Fl.pair (Fl.int .i64) (Fl.pair (Fl.int .i64) (Fl.pair (Fl.int .i64) (Fl.int .i64))))
theorem rtF_even : rtF.Even := ⟨fun _ => rfl⟩
def sumW (a b : Int) : Int := IntKind.wrap .i64 (a + b)
def aheadR (c r c' r' : Int) : Bool := if sumW c r = sumW c' r' then decide (r < r') else decide (sumW c r < sumW c' r')
def rlt (a b : Rt) : Bool := aheadR a.2.2.1 a.2.2.2.1 b.2.2.1 b.2.2.2.1 || (!aheadR b.2.2.1 b.2.2.2.1 a.2.2.1 a.2.2.2.1 && decide (a.2.2.2.2 < b.2.2.2.2))
theorem aheadR_iff (c r c' r' : Int) : aheadR c r c' r' = true ↔ sumW c r < sumW c' r' ∨ (sumW c r = sumW c' r' ∧ r < r') := by
  unfold aheadR
  by_cases e : sumW c r = sumW c' r'
  · rw [if_pos e, decide_eq_true_eq]; omega
  · rw [if_neg e, decide_eq_true_eq]; omega
theorem aheadR_no (c r c' r' : Int) : aheadR c r c' r' = false ↔ ¬ (sumW c r < sumW c' r' ∨ (sumW c r = sumW c' r' ∧ r < r')) := by
  rw [← aheadR_iff, Bool.not_eq_true]
theorem rlt_iff (a b : Rt) : rlt a b = true ↔ sumW a.2.2.1 a.2.2.2.1 < sumW b.2.2.1 b.2.2.2.1 ∨ (sumW a.2.2.1 a.2.2.2.1 = sumW b.2.2.1 b.2.2.2.1 ∧ (a.2.2.2.1 < b.2.2.2.1 ∨ (a.2.2.2.1 = b.2.2.2.1 ∧ a.2.2.2.2 < b.2.2.2.2))) := by
  unfold rlt
  rw [Bool.or_eq_true, Bool.and_eq_true, Bool.not_eq_true', decide_eq_true_eq, aheadR_iff, aheadR_no]
  omega
theorem rlt_no (a b : Rt) : rlt a b = false ↔ ¬ (sumW a.2.2.1 a.2.2.2.1 < sumW b.2.2.1 b.2.2.2.1 ∨ (sumW a.2.2.1 a.2.2.2.1 = sumW b.2.2.1 b.2.2.2.1 ∧ (a.2.2.2.1 < b.2.2.2.1 ∨ (a.2.2.2.1 = b.2.2.2.1 ∧ a.2.2.2.2 < b.2.2.2.2)))) := by
  rw [← rlt_iff, Bool.not_eq_true]
theorem rlt_ord : OrdB rlt := by
  constructor
  · intro a b h
    rw [rlt_iff] at h
    rw [rlt_no]
    omega
  · intro a b c h1 h2
    rw [rlt_no] at h1 h2 ⊢
    omega
theorem r_route_ahead (m : Mem) (hm : m.Wf) (a b c d a' b' c' d' : Int) : RF tb f_route_ahead [.agg [.int .i64 a, .int .i64 b, .int .i64 c, .int .i64 d], .agg [.int .i64 a', .int .i64 b', .int .i64 c', .int .i64 d']] m = some (.bool (aheadR c d c' d'), m) := by
  rw [RF_go t_route_ahead _ _ rfl]
  simp (maxDischargeDepth := 8) only [go_sem, s_route_ahead, hm]
  by_cases e : sumW c d = sumW c' d'
  · have e' : IntKind.wrap .i64 (c + d) = IntKind.wrap .i64 (c' + d') := e
    simp (maxDischargeDepth := 8) only [go_sem, hm, e', show ∀ n : Int, (n != n) = false from fun n => by simp]
    simp [aheadR, e]
  · have e' : (IntKind.wrap .i64 (c + d) != IntKind.wrap .i64 (c' + d')) = true := by rw [bne_iff_ne]; exact e
    simp (maxDischargeDepth := 8) only [go_sem, hm, e']
    simp only [aheadR, if_neg e]
    rfl
abbrev rpC (hv : SV) (n : Int) : List SV := [.fn f_route_ahead [] [], hv, .int .i64 n]
theorem r_rheap_first {m : Mem} {k : Nat} {hv : SV} {n : Int} {L : List Rt} (hd : m.get (.hp k 0) = some (.cells true (rpC hv n))) (hl : LiesD rtF m hv L) {i j : Nat} {a b : Rt} (hi : L[i]? = some a) (hj : L[j]? = some b) {X : Mem} (hX : HpSub m X) (hw : X.Wf) : RF tb f_heap_Heap_route_open_first [.ptr (.hp k 0) 0, .int .i64 (i : Int), .int .i64 (j : Int)] X = some (.bool (rlt a b), X) := by
  have hld : ∀ {Y : Mem}, HpSub m Y → ∀ off q, Y.load (.hp k 0) off q = partv (rpC hv n) off q := fun hY off q => by rw [load_get, hY _ _ _ hd]
  have li : i < L.length := lt_of_get hi
  have lj : j < L.length := lt_of_get hj
  have ai := fun (q : IntKind) (Y : Mem) => LiesD.iaddr hl li q Y
  have aj := fun (q : IntKind) (Y : Mem) => LiesD.iaddr hl lj q Y
  have bi := fun {Y : Mem} (hY : HpSub m Y) => LiesD.loadX rtF_even (by decide) hl hi hY
  have bj := fun {Y : Mem} (hY : HpSub m Y) => LiesD.loadX rtF_even (by decide) hl hj hY
  obtain ⟨a1, a2, a3, a4, a5⟩ := a
  obtain ⟨b1, b2, b3, b4, b5⟩ := b
  change ∀ (q : IntKind) (Y : Mem), iaddrV 5 hv (.int q (i : Int)) Y = some (.ptr (.hp (slN hv) (slW hv)) (slO hv + i * 5), Y) at ai
  change ∀ (q : IntKind) (Y : Mem), iaddrV 5 hv (.int q (j : Int)) Y = some (.ptr (.hp (slN hv) (slW hv)) (slO hv + j * 5), Y) at aj
  have bi' : ∀ {Y : Mem}, HpSub m Y → Y.load (.hp (slN hv) (slW hv)) (slO hv + i * 5) (some 5) = some (.agg [.int .i64 a1, .int .i64 a2, .int .i64 a3, .int .i64 a4, .int .i64 a5]) := fun hY => bi hY
  have bj' : ∀ {Y : Mem}, HpSub m Y → Y.load (.hp (slN hv) (slW hv)) (slO hv + j * 5) (some 5) = some (.agg [.int .i64 b1, .int .i64 b2, .int .i64 b3, .int .i64 b4, .int .i64 b5]) := fun hY => bj hY
  rw [RF_go t_heap_Heap_route_open_first _ _ rfl]
  simp (maxDischargeDepth := 8) only [go_sem, s_heap_Heap_route_open_first, hw, hX, hld, rpC, ai, aj, bi', bj', RV_fn, List.nil_append, List.append_nil, r_route_ahead]
  unfold rlt
  dsimp only
  cases h1 : aheadR a3 a4 b3 b4 with
  | true => simp (maxDischargeDepth := 8) only [go_sem, hw]; rfl
  | false =>
    simp (maxDischargeDepth := 8) only [go_sem, hw, hX, hld, rpC, RV_fn, List.nil_append, List.append_nil, r_route_ahead]
    cases h2 : aheadR b3 b4 a3 a4 with
    | true => simp (maxDischargeDepth := 8) only [go_sem, hw]; rfl
    | false => simp (maxDischargeDepth := 8) only [go_sem, hw]; rfl
theorem rtF_ok (l : List Rt) : SV.cellsOk 0 0 (l.flatMap rtF.enc) = true := cellsOk_flat (fun _ => rfl) l
theorem hxs_rt (l : List Rt) : SV.hxs (l.flatMap rtF.enc) = 0 := by induction l with | nil => rfl | cons a l ih => simp only [List.flatMap_cons]; exact ih
structure RHeapOwn (H : Hp) (k : Nat) (hv : SV) (n : Int) (L : List Rt) : Prop where
  hd : hget H k 0 = some (.cells true (rpC hv n))
  ow : Own rtF H hv L
  nk : k ∉ slFp hv
  cp : capN hv = true
abbrev rtV (a : Rt) : SV := .agg [.int .i64 a.1, .int .i64 a.2.1, .int .i64 a.2.2.1, .int .i64 a.2.2.2.1, .int .i64 a.2.2.2.2]
theorem storeRt {H : Hp} {v : SV} {l : List Rt} (hv : Own rtF H v l) {i : Nat} (hi : i < l.length) (X : Mem) (hm : ∀ i ∈ slFp v, X.hb ≤ i) (a : Rt) :
    ∃ H', (∀ f e, ((X.hp H).fr f e).store (.hp (slN v) (slW v)) (slO v + i * 5) [.int .i64 a.1, .int .i64 a.2.1, .int .i64 a.2.2.1, .int .i64 a.2.2.2.1, .int .i64 a.2.2.2.2] = some ((X.hp H').fr f e)) ∧ Own rtF H' v (l.set i a) ∧ Keep (slFp v) H H' ∧ H'.length = H.length := by
  obtain ⟨H', h1, h2⟩ := store_own rtF_even (by decide) (fun _ => rfl) (fun _ => rfl) hv hi X hm a
  exact ⟨H', h1, h2⟩
theorem r_rheap_Len {m : Mem} {k : Nat} {hv : SV} {n : Int} {L : List Rt} (hd : m.get (.hp k 0) = some (.cells true (rpC hv n))) (hl : LiesD rtF m hv L) {X : Mem} (hX : HpSub m X) (hw : X.Wf) : RF tb f_heap_Heap_route_open_Len [.ptr (.hp k 0) 0] X = some (.int .i64 (L.length : Int), X) := by
  have hld : ∀ {Y : Mem}, HpSub m Y → ∀ off q, Y.load (.hp k 0) off q = partv (rpC hv n) off q := fun hY off q => by rw [load_get, hY _ _ _ hd]
  rw [RF_go t_heap_Heap_route_open_Len _ _ rfl]
  simp (maxDischargeDepth := 8) only [go_sem, s_heap_Heap_route_open_Len, hw, hX, hld, rpC, hl.len]
theorem r_rheap_Top {m : Mem} {k : Nat} {hv : SV} {n : Int} {L : List Rt} (hd : m.get (.hp k 0) = some (.cells true (rpC hv n))) (hl : LiesD rtF m hv L) {X : Mem} (hX : HpSub m X) (hw : X.Wf) : RF tb f_heap_Heap_route_open_Top [.ptr (.hp k 0) 0] X = some (.tup [.agg [.int .i64 (L.headD (0, 0, 0, 0, 0)).1, .int .i64 (L.headD (0, 0, 0, 0, 0)).2.1, .int .i64 (L.headD (0, 0, 0, 0, 0)).2.2.1, .int .i64 (L.headD (0, 0, 0, 0, 0)).2.2.2.1], .bool (decide (0 < L.length))], X) := by
  have hld : ∀ {Y : Mem}, HpSub m Y → ∀ off q, Y.load (.hp k 0) off q = partv (rpC hv n) off q := fun hY off q => by rw [load_get, hY _ _ _ hd]
  rw [RF_go t_heap_Heap_route_open_Top _ _ rfl]
  simp (maxDischargeDepth := 8) only [go_sem, s_heap_Heap_route_open_Top, hw, hX, r_rheap_Len hd hl]
  cases L with
  | nil => simp (maxDischargeDepth := 8) only [go_sem, hw, show (((([] : List Rt).length : Nat) : Int) == 0) = true from rfl, show ((0 : Int) == 0) = true from rfl]; rfl
  | cons a L =>
    simp (maxDischargeDepth := 8) only [go_sem, hw, hX, hld, rpC, show (((L.length + 1 : Nat) : Int) == 0) = false from by simp; omega]
    have a0 : ∀ (q : IntKind) (Y : Mem), iaddrV 5 hv (.int q 0) Y = some (.ptr (.hp (slN hv) (slW hv)) (slO hv), Y) := fun q Y => LiesD.iaddr0 hl q Y
    have b0 : ∀ {Y : Mem}, HpSub m Y → Y.load (.hp (slN hv) (slW hv)) (slO hv) (some 4) = some (.agg [.int .i64 a.1, .int .i64 a.2.1, .int .i64 a.2.2.1, .int .i64 a.2.2.2.1]) := fun hY => by
      have h1 : Lies _ 5 hv (a :: L).length ((a :: L).flatMap rtF.enc) := hl.sub hY
      exact h1.loadN (o := 0) (k := 4) (by decide) (by simp; omega)
    simp (maxDischargeDepth := 8) only [go_sem, hw, hX, a0, b0]
    simp
theorem r_rheap_New {X : Mem} (hw : X.Wf) : RF tb f_heap_New_route_open [.fn f_route_ahead [] []] X = some (.ptr (.hp X.hl 0) 0, X.hp (X.heap ++ [(0, .cells true (rpC .nils 0))])) := by
  rw [RF_go t_heap_New_route_open _ _ rfl, push_hp]
  simp (maxDischargeDepth := 8) only [go_sem, s_heap_New_route_open, hw]
  rw [if_neg (by show ¬ X.heap.length + 1 ≤ X.heap.length; omega)]
  rfl
theorem rendOwn {X : Mem} {k : Nat} {hv : SV} {n : Int} {L : List Rt} {A : Hp} {u : Option Nat} (hd : hget A k 0 = some (.cells true (rpC hv n))) (ow : Own rtF A hv L) (nk : k ∉ slFp hv) (cp : capN hv = true) (he : (∀ i ∈ slFp hv, i < X.hl) ∨ escOk X.hl u = false) (hk : k < X.hl) : RHeapOwn (if escOk X.hl u = true then A.take X.hl else A) k hv n L :=
  ⟨by rw [hget_congr (fin_keep0 (.inl hk))]; exact hd, ow.congr fun i hi => fin_keep0 (by
    rcases he with h | h
    · exact .inl (h i hi)
    · exact .inr h), nk, cp⟩
theorem r_rheap_PushE {X : Mem} {k : Nat} {hv : SV} {n : Int} {L : List Rt} (hO : RHeapOwn X.heap k hv n L) (hb : L.length ≤ 4000000) (hn : 0 ≤ n ∧ n ≤ 1000000000) (hk : X.hb ≤ k) (hm : ∀ i ∈ slFp hv, X.hb ≤ i) (hw : X.Wf) (a b c d : Int) :
    ∃ hv' H' u, RF tb f_heap_Heap_route_open_Push [.ptr (.hp k 0) 0, .agg [.int .i64 a, .int .i64 b, .int .i64 c, .int .i64 d]] X = some (.tup [], (X.hp H').es (escMin X.esc u)) ∧ RHeapOwn H' k hv' (n + 1) (upH rlt (L.length + 1) L.length (L ++ [(a, b, c, d, n)])) ∧ Keep (k :: slFp hv) X.heap H' ∧ (∀ i ∈ slFp hv', i ∈ slFp hv ∨ X.heap.length ≤ i) ∧ ((∀ i ∈ slFp hv', i < k) ∨ u = some k) := by
  rw [RF_go t_heap_Heap_route_open_Push _ _ rfl, push_hp]
  generalize hH : X.heap = H at *
  have hHl : X.hl = H.length := by rw [← hH]; rfl
  obtain ⟨hd, ow, nk, cp⟩ := hO
  have hld : ∀ off q, loadO (hget H k 0) off q = partv (rpC hv n) off q := fun off q => by rw [hd]; rfl
  have s1 := ow.isSl rtF_even
  obtain ⟨H1, hH1⟩ : ∃ H1, H ++ [(0, SBk.cells true [.int .i64 a, .int .i64 b, .int .i64 c, .int .i64 d, .int .i64 n])] = H1 := ⟨_, rfl⟩
  have k1 : Keep [] H H1 := by rw [← hH1]; exact Keep.app _ _ _
  have l1 : H1.length = H.length + 1 := by rw [← hH1, List.length_append]; rfl
  have hyl : LiesD rtF (Hm H1) (.sl (.hp H.length 0) 0 1 (some 1) 5) [(a, b, c, d, n)] := by rw [← hH1]; exact (own_new rtF_even H [(a, b, c, d, n)] (some 1)).lies rtF_even
  obtain ⟨hv', H2, ha, o1, o2, o3, ⟨o4, o5, o6⟩, o7⟩ := app_own rtF_even (by decide) rtF_ok hxs_rt (ow.keep k1 (by simp)) hyl (bytes := 40) (by simp only [List.length_singleton, two48]; omega) (by simp only [List.length_singleton, two48]; omega) X hm
  have ha' := ha [.int .i64 0, .int .i64 0, .int .i64 0, .int .i64 0, .int .i64 0] rfl (fun _ => true) (ow.aw (fun _ _ => rfl))
  change ∀ f e, appV 5 40 [.int .i64 0, .int .i64 0, .int .i64 0, .int .i64 0, .int .i64 0] (fun _ => true) hv (.sl (.hp H.length 0) 0 1 (some 1) 5) _ = _ at ha'
  have s2 := o1.isSl rtF_even
  have cp' : capN hv' = true := app_cap (ha' [] none) cp
  have kl : k < H.length := hget_lt hd
  have nk' : k ∉ slFp hv' := fun h => by
    rcases o3 k h with h | h
    · exact nk h
    · omega
  have hd2 : hget H2 k 0 = some (.cells true (rpC hv n)) := o2.get (k1.get hd (by simp)) nk
  simp (maxDischargeDepth := 8) only [go_sem, s_heap_Heap_route_open_Push, hw, hH, hd, rpC, hH1, ha', s1.l, s2.l, s2.c, s2.k, s2.o, hd2, hk]
  have kl2 : k < H2.length := hget_lt hd2
  obtain ⟨H3, hH3⟩ : ∃ H3, H2.set k (0, SBk.cells true [.fn f_route_ahead [] [], hv', .int .i64 n]) = H3 := ⟨_, rfl⟩
  have hd3 : hget H3 k 0 = some (.cells true [.fn f_route_ahead [] [], hv', .int .i64 n]) := by rw [← hH3, hget_set_eq kl2, if_pos rfl]
  have k3 : Keep [k] H2 H3 := by rw [← hH3]; exact Keep.set (by simp) _ _
  have l3 : H3.length = H2.length := by rw [← hH3, List.length_set]
  rw [hH3]
  have he0 : (∀ i ∈ slFp hv', i < X.hl) ∨ escOk X.hl (if hv'.hx ≤ k then none else some k) = false := by
    by_cases h : hv'.hx ≤ k
    · exact .inl fun i hi => by rw [hx_fp hi] at h; omega
    · rw [if_neg h]; exact .inr (escOk_some (by omega))
  have hek : (∀ i ∈ slFp hv', i < k) ∨ (if hv'.hx ≤ k then none else some k) = some k := by
    by_cases h : hv'.hx ≤ k
    · exact .inl fun i hi => by rw [hx_fp hi] at h; omega
    · rw [if_neg h]; exact .inr rfl
  generalize (if hv'.hx ≤ k then none else some k) = e0 at he0 hek ⊢
  simp (maxDischargeDepth := 8) only [go_sem, hw, hd3, s2.l, s2.c, s2.k, s2.o, hk, wrap_small (x := n + 1) (by omega) (by omega)]
  obtain ⟨H4, hH4⟩ : ∃ H4, H3.set k (0, SBk.cells true [.fn f_route_ahead [] [], hv', .int .i64 (n + 1)]) = H4 := ⟨_, rfl⟩
  have hd4 : hget H4 k 0 = some (.cells true [.fn f_route_ahead [] [], hv', .int .i64 (n + 1)]) := by rw [← hH4, hget_set_eq (by omega), if_pos rfl]
  have k4 : Keep [k] H3 H4 := by rw [← hH4]; exact Keep.set (by simp) _ _
  have l4 : H4.length = H3.length := by rw [← hH4, List.length_set]
  have o1' : Own rtF H4 hv' (L ++ [(a, b, c, d, n)]) := (o1.keep k3 (fun i hi h => nk' (by rw [List.mem_singleton] at h; rw [← h]; exact hi))).keep k4 (fun i hi h => nk' (by rw [List.mem_singleton] at h; rw [← h]; exact hi))
  rw [hH4]
  have hfp : ∀ i ∈ slFp hv', i ∈ slFp hv ∨ H.length ≤ i := fun i hi => by
    rcases o3 i hi with h | h
    · exact .inl h
    · exact .inr (by omega)
  have kHk : Keep (k :: slFp hv) H H4 := ((((Keep.weak (T := k :: slFp hv) k1 (by simp)).trans' o2 (fun n hn _ => List.mem_cons_of_mem _ hn)).trans' k3 (fun n hn _ => by rw [List.mem_singleton] at hn; rw [hn]; exact List.mem_cons_self)).trans' k4 (fun n hn _ => by rw [List.mem_singleton] at hn; rw [hn]; exact List.mem_cons_self))
  have hm' : ∀ i ∈ slFp hv', X.hb ≤ i := fun i hi => by
    rcases hfp i hi with h | h
    · exact hm i h
    · have := hget_lt hd; omega
  simp (maxDischargeDepth := 8) only [go_sem, hw, hd4, s2.l, s2.c, s2.k, s2.o, hk, (o1'.lies rtF_even).len, show ((L ++ [(a, b, c, d, n)]).length : Int) = ((L.length + 1 : Nat) : Int) from by simp, wrap_small (x := ((L.length + 1 : Nat) : Int) - 1) (by omega) (by omega)]
  rw [show ((L.length + 1 : Nat) : Int) - 1 = (L.length : Int) from by omega]
  rw [KL_keep _ _ _ (by simp (maxDischargeDepth := 8) only [go_sem])]
  simp (maxDischargeDepth := 8) only [go_sem]
  generalize hRr : upH rlt (L.length + 1) L.length (L ++ [(a, b, c, d, n)]) = Rr
  refine KL_ind (R := fun z => ∃ hv' H' u, fin [] X z = some (.tup [], (X.hp H').es (escMin X.esc u)) ∧ RHeapOwn H' k hv' (n + 1) Rr ∧ Keep (k :: slFp hv) H H' ∧ (∀ (i : Nat), i ∈ slFp hv' → i ∈ slFp hv ∨ H.length ≤ i) ∧ ((∀ i ∈ slFp hv', i < k) ∨ u = some k)) (α := Nat × Nat × List Rt × Hp) (fun q => q.1)
    (fun q => [(0, .ptr (.hp k 0) 0), (4, .int .i64 (q.1 : Int))])
    (fun q => (X.hp q.2.2.2).fr [.cells true [.int .i64 a, .int .i64 b, .int .i64 c, .int .i64 d]] e0)
    (fun q => q.1 < q.2.1 ∧ q.1 < q.2.2.1.length ∧ q.2.2.1.length = L.length + 1 ∧ Rr = upH rlt q.2.1 q.1 q.2.2.1 ∧ Own rtF q.2.2.2 hv' q.2.2.1 ∧ hget q.2.2.2 k 0 = some (.cells true (rpC hv' (n + 1))) ∧ Keep (k :: slFp hv) H q.2.2.2) ?_ (L.length, L.length + 1, L ++ [(a, b, c, d, n)], H4) ⟨Nat.lt_succ_self _, by simp, by simp, hRr.symm, o1', hd4, kHk⟩
  clear o1' hd4 kHk hRr
  rintro ⟨i, f, Lc, Hc⟩ ⟨hif, hil, hlen, hup, ow, hd, kk⟩ ih
  dsimp only at hif hil hlen hup ow hd kk ⊢
  simp (maxDischargeDepth := 8) only [go_sem, hw]
  obtain ⟨f, rfl⟩ : ∃ g, f = g + 1 := ⟨f - 1, by omega⟩
  simp only [upH] at hup
  by_cases h0 : i = 0
  · subst h0
    rw [if_pos rfl] at hup
    simp (maxDischargeDepth := 8) only [go_sem, hw, show decide (((0 : Nat) : Int) > 0) = false from rfl, show decide ((0 : Int) > 0) = false from rfl]
    rw [hup]
    exact ⟨hv', _, e0, rfl, rendOwn hd ow nk' cp' he0 (by omega), by rw [← hH] at kk ⊢; exact kk.back0, hfp, hek⟩
  · rw [if_neg h0] at hup
    have hq1 : IntKind.wrap .i64 ((i : Int) - 1) = ((i - 1 : Nat) : Int) := by rw [wrap_small (by omega) (by omega)]; omega
    have hq2 : Int.tdiv ((i - 1 : Nat) : Int) 2 = (((i - 1) / 2 : Nat) : Int) := rfl
    obtain ⟨x, hx⟩ : ∃ x, Lc[i]? = some x := ⟨_, List.getElem?_eq_getElem hil⟩
    obtain ⟨y, hy⟩ : ∃ y, Lc[(i - 1) / 2]? = some y := ⟨_, List.getElem?_eq_getElem (by omega)⟩
    rw [hx, hy] at hup
    dsimp only at hup
    simp (maxDischargeDepth := 8) only [go_sem, hw, show decide ((i : Int) > 0) = true from decide_eq_true (by omega), hq1, hq2, wrap_small (x := (((i - 1) / 2 : Nat) : Int)) (by omega) (by omega), r_rheap_first (show (Hm Hc).get (.hp k 0) = _ from hd) (ow.lies rtF_even) hx hy]
    cases hc : rlt x y with
    | false =>
      rw [hc, if_neg Bool.false_ne_true] at hup
      rw [hup]
      simp (maxDischargeDepth := 8) only [go_sem, hw]
      exact ⟨hv', _, e0, rfl, rendOwn hd ow nk' cp' he0 (by omega), by rw [← hH] at kk ⊢; exact kk.back0, hfp, hek⟩
    | true =>
      rw [hc, if_pos rfl] at hup
      have ll := ow.lies rtF_even
      have ai : ∀ (q : IntKind) (Y : Mem), iaddrV 5 hv' (.int q (i : Int)) Y = some (.ptr (.hp (slN hv') (slW hv')) (slO hv' + i * 5), Y) := fun q Y => LiesD.iaddr ll hil q Y
      have ap : ∀ (q : IntKind) (Y : Mem), iaddrV 5 hv' (.int q (((i - 1) / 2 : Nat) : Int)) Y = some (.ptr (.hp (slN hv') (slW hv')) (slO hv' + (i - 1) / 2 * 5), Y) := fun q Y => LiesD.iaddr ll (by omega) q Y
      have bi : ∀ {Y : Mem}, HpSub (Hm Hc) Y → Y.load (.hp (slN hv') (slW hv')) (slO hv' + i * 5) (some 5) = some (rtV x) := fun hY => LiesD.loadX rtF_even (by decide) ll hx hY
      have bp : ∀ {Y : Mem}, HpSub (Hm Hc) Y → Y.load (.hp (slN hv') (slW hv')) (slO hv' + (i - 1) / 2 * 5) (some 5) = some (rtV y) := fun hY => LiesD.loadX rtF_even (by decide) ll hy hY
      obtain ⟨H5, st5, o5, k5, l5⟩ := storeRt ow hil X hm' y
      obtain ⟨H6, st6, o6, k6, l6⟩ := storeRt o5 (i := (i - 1) / 2) (by rw [List.length_set]; omega) X hm' x
      rw [← swp_eq hx hy] at o6
      have hd6 : hget H6 k 0 = some (.cells true (rpC hv' (n + 1))) := k6.get (k5.get hd nk') nk'
      have kk6 : Keep (k :: slFp hv) H H6 := (kk.trans' k5 (fun n hn hl => List.mem_cons_of_mem _ (by rcases hfp n hn with h | h; exact h; omega))).trans' k6 (fun n hn hl => List.mem_cons_of_mem _ (by rcases hfp n hn with h | h; exact h; omega))
      simp (maxDischargeDepth := 8) only [go_sem, hw, hd, rpC, hq1, hq2, wrap_small (x := (((i - 1) / 2 : Nat) : Int)) (by omega) (by omega), ai, ap, bi, bp, rtV, st5, st6, s2.l]
      rw [KL_keep _ _ _ (by simp (maxDischargeDepth := 8) only [go_sem])]
      simp (maxDischargeDepth := 8) only [go_sem]
      exact ih ((i - 1) / 2, f, swp Lc i ((i - 1) / 2), H6) ⟨by dsimp only; omega, by dsimp only; rw [swp_len]; omega, by dsimp only; rw [swp_len]; exact hlen, hup, o6, hd6, kk6⟩ (by dsimp only; omega)
theorem r_rheap_Push {X : Mem} {k : Nat} {hv : SV} {n : Int} {L : List Rt} (hO : RHeapOwn X.heap k hv n L) (hb : L.length ≤ 4000000) (hn : 0 ≤ n ∧ n ≤ 1000000000) (hk : X.hb ≤ k) (hm : ∀ i ∈ slFp hv, X.hb ≤ i) (hw : X.Wf) (a b c d : Int) :
    ∃ hv' H' u, RF tb f_heap_Heap_route_open_Push [.ptr (.hp k 0) 0, .agg [.int .i64 a, .int .i64 b, .int .i64 c, .int .i64 d]] X = some (.tup [], (X.hp H').es (escMin X.esc u)) ∧ RHeapOwn H' k hv' (n + 1) (upH rlt (L.length + 1) L.length (L ++ [(a, b, c, d, n)])) ∧ Keep (k :: slFp hv) X.heap H' ∧ (∀ i ∈ slFp hv', i ∈ slFp hv ∨ X.heap.length ≤ i) := by
  obtain ⟨hv', H', u, h1, h2, h3, h4, _⟩ := r_rheap_PushE hO hb hn hk hm hw a b c d
  exact ⟨hv', H', u, h1, h2, h3, h4⟩
/-- Popping: the plain act. -/
def rpopL (L : List Rt) : List Rt := match L[L.length - 1]? with
  | some x => downH rlt L.length 0 ((L.set 0 x).take (L.length - 1))
  | none => []
theorem r_rheap_Pop0 {m : Mem} {k : Nat} {hv : SV} {n : Int} (hd : m.get (.hp k 0) = some (.cells true (rpC hv n))) (hl : LiesD rtF m hv []) {X : Mem} (hX : HpSub m X) (hw : X.Wf) : RF tb f_heap_Heap_route_open_Pop [.ptr (.hp k 0) 0] X = some (.tup [.agg [.int .i64 0, .int .i64 0, .int .i64 0, .int .i64 0], .bool false], X) := by
  rw [RF_go t_heap_Heap_route_open_Pop _ _ rfl]
  simp (maxDischargeDepth := 8) only [go_sem, s_heap_Heap_route_open_Pop, hw, hX, r_rheap_Top hd hl, show decide (0 < ([] : List Rt).length) = false from rfl]
  simp
theorem r_rheap_Pop {X : Mem} {k : Nat} {hv : SV} {n : Int} {a0 : Rt} {T : List Rt} (hO : RHeapOwn X.heap k hv n (a0 :: T)) (hb : T.length ≤ 4000000) (hk : X.hb ≤ k) (hm : ∀ i ∈ slFp hv, X.hb ≤ i) (hw : X.Wf) :
    ∃ hv' H' u, RF tb f_heap_Heap_route_open_Pop [.ptr (.hp k 0) 0] X = some (.tup [.agg [.int .i64 a0.1, .int .i64 a0.2.1, .int .i64 a0.2.2.1, .int .i64 a0.2.2.2.1], .bool true], (X.hp H').es (escMin X.esc u)) ∧ RHeapOwn H' k hv' n (rpopL (a0 :: T)) ∧ Keep (k :: slFp hv) X.heap H' ∧ (∀ i ∈ slFp hv', i ∈ slFp hv) := by
  rw [RF_go t_heap_Heap_route_open_Pop _ _ rfl, push_hp]
  generalize hH : X.heap = H at *
  have hHl : X.hl = H.length := by rw [← hH]; rfl
  obtain ⟨hd, ow, nk, cp⟩ := hO
  have kl : k < H.length := hget_lt hd
  have s1 := ow.isSl rtF_even
  obtain ⟨x, hx⟩ : ∃ x, (a0 :: T)[T.length]? = some x := ⟨_, List.getElem?_eq_getElem (by simp)⟩
  have ll := ow.lies rtF_even
  have a1 : ∀ (q : IntKind) (Y : Mem), iaddrV 5 hv (.int q 0) Y = some (.ptr (.hp (slN hv) (slW hv)) (slO hv), Y) := fun q Y => LiesD.iaddr0 ll q Y
  have a2 : ∀ (q : IntKind) (Y : Mem), iaddrV 5 hv (.int q (T.length : Int)) Y = some (.ptr (.hp (slN hv) (slW hv)) (slO hv + T.length * 5), Y) := fun q Y => LiesD.iaddr ll (by simp) q Y
  have b2 : ∀ {Y : Mem}, HpSub (Hm H) Y → Y.load (.hp (slN hv) (slW hv)) (slO hv + T.length * 5) (some 5) = some (rtV x) := fun hY => LiesD.loadX rtF_even (by decide) ll hx hY
  obtain ⟨H1, st1, o1, k1, l1⟩ := storeRt ow (i := 0) (by simp) X hm x
  rw [Nat.zero_mul, Nat.add_zero] at st1
  have hd1 : hget H1 k 0 = some (.cells true (rpC hv n)) := k1.get hd nk
  have ts : sliceV 5 hv none (some (T.length : Int)) none = some (takeV T.length hv) := Lies.takeS ll (by simp) (fun b off cap z e => by
    rw [e] at cp
    cases cap with
    | none => simp
    | some c => cases cp)
  have wT : IntKind.wrap .i64 (((T.length + 1 : Nat) : Int) - 1) = (T.length : Int) := by rw [wrap_small (by omega) (by omega)]; omega
  simp (maxDischargeDepth := 8) only [go_sem, s_heap_Heap_route_open_Pop, hw, hH, hd, rpC, r_rheap_Top (show (Hm H).get (.hp k 0) = _ from hd) ll, show decide (0 < (a0 :: T).length) = true from by simp, ll.len, show ((a0 :: T).length : Int) = (T.length : Int) + 1 from by simp, wT, List.headD_cons, a1, a2, b2, rtV, st1, hd1, ts]
  have o1t := own_take rtF_even o1 (hi := T.length) (by simp)
  have fpt := takeV_fp T.length hv
  have cpt := takeV_cap T.length hv cp
  generalize takeV T.length hv = tv at o1t fpt cpt
  obtain ⟨L1, hL1⟩ : ∃ L1, ((a0 :: T).set 0 x).take T.length = L1 := ⟨_, rfl⟩
  have hl1 : L1.length = T.length := by rw [← hL1, List.length_take, List.length_set, List.length_cons]; omega
  have hpop : rpopL (a0 :: T) = downH rlt (T.length + 1) 0 L1 := by
    rw [rpopL, show (a0 :: T).length - 1 = T.length from by simp, hx, ← hL1]
    rfl
  rw [hL1] at o1t
  rw [hpop]
  have s2 := o1t.isSl rtF_even
  have nkt : k ∉ slFp tv := by rw [fpt]; exact nk
  have hmt : ∀ i ∈ slFp tv, X.hb ≤ i := by rw [fpt]; exact hm
  simp (maxDischargeDepth := 8) only [go_sem, hw, s2.c, s2.k, s2.o, s2.l, hd1, rpC, hk]
  have he0 : (∀ i ∈ slFp tv, i < X.hl) ∨ escOk X.hl (if tv.hx ≤ k then none else some k) = false := by
    by_cases h : tv.hx ≤ k
    · exact .inl fun i hi => by rw [hx_fp hi] at h; omega
    · rw [if_neg h]; exact .inr (escOk_some (by omega))
  generalize (if tv.hx ≤ k then none else some k) = e0 at he0 ⊢
  obtain ⟨H2, hH2⟩ : ∃ H2, H1.set k (0, SBk.cells true [.fn f_route_ahead [] [], tv, .int .i64 n]) = H2 := ⟨_, rfl⟩
  have hd2 : hget H2 k 0 = some (.cells true (rpC tv n)) := by rw [← hH2, hget_set_eq (by omega), if_pos rfl]
  have k2 : Keep [k] H1 H2 := by rw [← hH2]; exact Keep.set (by simp) _ _
  have o2 : Own rtF H2 tv L1 := o1t.keep k2 (fun i hi h => nkt (by rw [List.mem_singleton] at h; rw [← h]; exact hi))
  have kk2 : Keep (k :: slFp hv) H H2 := ((Keep.refl (k :: slFp hv) H).trans' k1 (fun n hn _ => List.mem_cons_of_mem _ hn)).trans' k2 (fun n hn _ => by rw [List.mem_singleton] at hn; rw [hn]; exact List.mem_cons_self)
  rw [hH2]
  rw [KL_keep _ _ _ (by simp (maxDischargeDepth := 8) only [go_sem])]
  simp (maxDischargeDepth := 8) only [go_sem]
  generalize hRr : downH rlt (T.length + 1) 0 L1 = Rr
  refine KL_ind (R := fun z => ∃ hv' H' u, fin [.cell 2 (some 4), .t 3] X z = some (.tup [.agg [.int .i64 a0.1, .int .i64 a0.2.1, .int .i64 a0.2.2.1, .int .i64 a0.2.2.2.1], .bool true], (X.hp H').es (escMin X.esc u)) ∧ RHeapOwn H' k hv' n Rr ∧ Keep (k :: slFp hv) H H' ∧ ∀ (i : Nat), i ∈ slFp hv' → i ∈ slFp hv) (α := Nat × Nat × List Rt × Hp) (fun q => q.2.1)
    (fun q => [(0, .ptr (.hp k 0) 0), (2, .ptr (.st X.dep 0) 0), (4, .ptr (.st X.dep 1) 0), (6, .int .i64 (T.length : Int)), (7, .int .i64 (q.1 : Int))])
    (fun q => (X.hp q.2.2.2).fr [.cells true [.int .i64 0, .int .i64 0, .int .i64 0, .int .i64 0], .cells true [.int .i64 a0.1, .int .i64 a0.2.1, .int .i64 a0.2.2.1, .int .i64 a0.2.2.2.1]] e0)
    (fun q => q.2.2.1.length = T.length ∧ q.1 ≤ T.length ∧ T.length < q.1 + q.2.1 ∧ Rr = downH rlt q.2.1 q.1 q.2.2.1 ∧ Own rtF q.2.2.2 tv q.2.2.1 ∧ hget q.2.2.2 k 0 = some (.cells true (rpC tv n)) ∧ Keep (k :: slFp hv) H q.2.2.2) ?_ (0, T.length + 1, L1, H2) ⟨hl1, by simp, by simp, hRr.symm, o2, hd2, kk2⟩
  clear o2 hd2 kk2 hRr
  rintro ⟨i, f, Lc, Hc⟩ ⟨hlen, hiT, hif, hup, ow, hd, kk⟩ ih
  dsimp only at hlen hiT hif hup ow hd kk ⊢
  obtain ⟨f, rfl⟩ : ∃ g, f = g + 1 := ⟨f - 1, by omega⟩
  have w1 : IntKind.wrap .i64 (2 * (i : Int)) = ((2 * i : Nat) : Int) := by rw [wrap_small (by omega) (by omega)]; omega
  have w2 : IntKind.wrap .i64 (((2 * i : Nat) : Int) + 1) = ((2 * i + 1 : Nat) : Int) := by rw [wrap_small (by omega) (by omega)]; omega
  have w3 : IntKind.wrap .i64 (((2 * i + 1 : Nat) : Int) + 1) = ((2 * i + 1 + 1 : Nat) : Int) := by rw [wrap_small (by omega) (by omega)]; omega
  have ll := ow.lies rtF_even
  have hdm : (Hm Hc).get (.hp k 0) = some (.cells true (rpC tv n)) := hd
  have fin_ : ∀ Lf, Rr = Lf → Lf = Lc → ∃ hv' H' u, some (SV.tup [.agg [.int .i64 a0.1, .int .i64 a0.2.1, .int .i64 a0.2.2.1, .int .i64 a0.2.2.2.1], .bool true], (X.hp (if escOk X.hl e0 = true then Hc.take X.hl else Hc)).es (escMin X.esc e0)) = some (.tup [.agg [.int .i64 a0.1, .int .i64 a0.2.1, .int .i64 a0.2.2.1, .int .i64 a0.2.2.2.1], .bool true], (X.hp H').es (escMin X.esc u)) ∧ RHeapOwn H' k hv' n Rr ∧ Keep (k :: slFp hv) H H' ∧ ∀ (i : Nat), i ∈ slFp hv' → i ∈ slFp hv := fun Lf h1 h2 => by
    rw [h1, h2]
    exact ⟨tv, _, e0, rfl, rendOwn hd ow nkt cpt he0 (by omega), by rw [← hH] at kk ⊢; exact kk.back0, fun i hi => by rw [fpt] at hi; exact hi⟩
  simp (maxDischargeDepth := 8) only [go_sem, hw, w1, w2, w3]
  simp only [downH] at hup
  by_cases hk2 : 2 * i + 1 + 1 < T.length
  · obtain ⟨x1, hx1⟩ : ∃ x, Lc[2 * i + 1]? = some x := ⟨_, List.getElem?_eq_getElem (by omega)⟩
    obtain ⟨x2, hx2⟩ : ∃ x, Lc[2 * i + 1 + 1]? = some x := ⟨_, List.getElem?_eq_getElem (by omega)⟩
    obtain ⟨y, hy⟩ : ∃ y, Lc[i]? = some y := ⟨_, List.getElem?_eq_getElem (by omega)⟩
    simp (maxDischargeDepth := 8) only [go_sem, hw, show decide (((2 * i + 1 + 1 : Nat) : Int) < (T.length : Int)) = true from decide_eq_true (by omega), w3, r_rheap_first hdm ll hx2 hx1]
    cases hc : rlt x2 x1 with
    | true =>
      have hkid : kidH rlt Lc i = 2 * i + 1 + 1 := by simp only [kidH, hx1, hx2, hc, if_true]
      rw [hkid, hx2, hy] at hup
      simp (maxDischargeDepth := 8) only [go_sem, hw, w3]
      dsimp only at hup
      simp (maxDischargeDepth := 8) only [go_sem, hw, show decide (((2 * i + 1 + 1 : Nat) : Int) ≥ (T.length : Int)) = false from decide_eq_false (by omega), r_rheap_first hdm ll hx2 hy]
      cases hd' : rlt x2 y with
      | false =>
        rw [hd', if_neg Bool.false_ne_true] at hup
        simp (maxDischargeDepth := 8) only [go_sem, hw]
        exact fin_ _ hup rfl
      | true =>
        rw [hd', if_pos rfl] at hup
        have ai : ∀ (q : IntKind) (Y : Mem), iaddrV 5 tv (.int q (i : Int)) Y = some (.ptr (.hp (slN tv) (slW tv)) (slO tv + i * 5), Y) := fun q Y => LiesD.iaddr ll (by omega) q Y
        have ap : ∀ (q : IntKind) (Y : Mem), iaddrV 5 tv (.int q ((2 * i + 1 + 1 : Nat) : Int)) Y = some (.ptr (.hp (slN tv) (slW tv)) (slO tv + (2 * i + 1 + 1) * 5), Y) := fun q Y => LiesD.iaddr ll (by omega) q Y
        have bi : ∀ {Y : Mem}, HpSub (Hm Hc) Y → Y.load (.hp (slN tv) (slW tv)) (slO tv + i * 5) (some 5) = some (rtV y) := fun hY => LiesD.loadX rtF_even (by decide) ll hy hY
        have bp : ∀ {Y : Mem}, HpSub (Hm Hc) Y → Y.load (.hp (slN tv) (slW tv)) (slO tv + (2 * i + 1 + 1) * 5) (some 5) = some (rtV x2) := fun hY => LiesD.loadX rtF_even (by decide) ll hx2 hY
        obtain ⟨H5, st5, o5, k5, l5⟩ := storeRt ow (i := i) (by omega) X hmt x2
        obtain ⟨H6, st6, o6, k6, l6⟩ := storeRt o5 (i := 2 * i + 1 + 1) (by rw [List.length_set]; omega) X hmt y
        rw [← swp_eq hy hx2] at o6
        have hd6 : hget H6 k 0 = some (.cells true (rpC tv n)) := k6.get (k5.get hd nkt) nkt
        have kk6 : Keep (k :: slFp hv) H H6 := (kk.trans' k5 (fun n hn hl => List.mem_cons_of_mem _ (by rw [← fpt]; exact hn))).trans' k6 (fun n hn hl => List.mem_cons_of_mem _ (by rw [← fpt]; exact hn))
        simp (maxDischargeDepth := 8) only [go_sem, hw, hd, rpC, ai, ap, bi, bp, rtV, st5, st6, s2.l]
        rw [KL_keep _ _ _ (by simp (maxDischargeDepth := 8) only [go_sem])]
        simp (maxDischargeDepth := 8) only [go_sem]
        exact ih (2 * i + 1 + 1, f, swp Lc i (2 * i + 1 + 1), H6) ⟨by dsimp only; rw [swp_len]; exact hlen, by dsimp only; omega, by dsimp only; omega, hup, o6, hd6, kk6⟩ (by dsimp only; omega)
    | false =>
      have hkid : kidH rlt Lc i = 2 * i + 1 := by simp only [kidH, hx1, hx2, hc, Bool.false_eq_true, if_false]
      rw [hkid, hx1, hy] at hup
      simp (maxDischargeDepth := 8) only [go_sem, hw]
      dsimp only at hup
      simp (maxDischargeDepth := 8) only [go_sem, hw, show decide (((2 * i + 1 : Nat) : Int) ≥ (T.length : Int)) = false from decide_eq_false (by omega), r_rheap_first hdm ll hx1 hy]
      cases hd' : rlt x1 y with
      | false =>
        rw [hd', if_neg Bool.false_ne_true] at hup
        simp (maxDischargeDepth := 8) only [go_sem, hw]
        exact fin_ _ hup rfl
      | true =>
        rw [hd', if_pos rfl] at hup
        have ai : ∀ (q : IntKind) (Y : Mem), iaddrV 5 tv (.int q (i : Int)) Y = some (.ptr (.hp (slN tv) (slW tv)) (slO tv + i * 5), Y) := fun q Y => LiesD.iaddr ll (by omega) q Y
        have ap : ∀ (q : IntKind) (Y : Mem), iaddrV 5 tv (.int q ((2 * i + 1 : Nat) : Int)) Y = some (.ptr (.hp (slN tv) (slW tv)) (slO tv + (2 * i + 1) * 5), Y) := fun q Y => LiesD.iaddr ll (by omega) q Y
        have bi : ∀ {Y : Mem}, HpSub (Hm Hc) Y → Y.load (.hp (slN tv) (slW tv)) (slO tv + i * 5) (some 5) = some (rtV y) := fun hY => LiesD.loadX rtF_even (by decide) ll hy hY
        have bp : ∀ {Y : Mem}, HpSub (Hm Hc) Y → Y.load (.hp (slN tv) (slW tv)) (slO tv + (2 * i + 1) * 5) (some 5) = some (rtV x1) := fun hY => LiesD.loadX rtF_even (by decide) ll hx1 hY
        obtain ⟨H5, st5, o5, k5, l5⟩ := storeRt ow (i := i) (by omega) X hmt x1
        obtain ⟨H6, st6, o6, k6, l6⟩ := storeRt o5 (i := 2 * i + 1) (by rw [List.length_set]; omega) X hmt y
        rw [← swp_eq hy hx1] at o6
        have hd6 : hget H6 k 0 = some (.cells true (rpC tv n)) := k6.get (k5.get hd nkt) nkt
        have kk6 : Keep (k :: slFp hv) H H6 := (kk.trans' k5 (fun n hn hl => List.mem_cons_of_mem _ (by rw [← fpt]; exact hn))).trans' k6 (fun n hn hl => List.mem_cons_of_mem _ (by rw [← fpt]; exact hn))
        simp (maxDischargeDepth := 8) only [go_sem, hw, hd, rpC, ai, ap, bi, bp, rtV, st5, st6, s2.l]
        rw [KL_keep _ _ _ (by simp (maxDischargeDepth := 8) only [go_sem])]
        simp (maxDischargeDepth := 8) only [go_sem]
        exact ih (2 * i + 1, f, swp Lc i (2 * i + 1), H6) ⟨by dsimp only; rw [swp_len]; exact hlen, by dsimp only; omega, by dsimp only; omega, hup, o6, hd6, kk6⟩ (by dsimp only; omega)
  · simp (maxDischargeDepth := 8) only [go_sem, hw, show decide (((2 * i + 1 + 1 : Nat) : Int) < (T.length : Int)) = false from decide_eq_false (by omega)]
    have hkid : kidH rlt Lc i = 2 * i + 1 := by
      have : Lc[2 * i + 1 + 1]? = none := List.getElem?_eq_none (by omega)
      simp only [kidH, this]
      split <;> simp_all
    rw [hkid] at hup
    by_cases hk1 : 2 * i + 1 < T.length
    · obtain ⟨x1, hx1⟩ : ∃ x, Lc[2 * i + 1]? = some x := ⟨_, List.getElem?_eq_getElem (by omega)⟩
      obtain ⟨y, hy⟩ : ∃ y, Lc[i]? = some y := ⟨_, List.getElem?_eq_getElem (by omega)⟩
      rw [hx1, hy] at hup
      dsimp only at hup
      simp (maxDischargeDepth := 8) only [go_sem, hw, show decide (((2 * i + 1 : Nat) : Int) ≥ (T.length : Int)) = false from decide_eq_false (by omega), r_rheap_first hdm ll hx1 hy]
      cases hd' : rlt x1 y with
      | false =>
        rw [hd', if_neg Bool.false_ne_true] at hup
        simp (maxDischargeDepth := 8) only [go_sem, hw]
        exact fin_ _ hup rfl
      | true =>
        rw [hd', if_pos rfl] at hup
        have ai : ∀ (q : IntKind) (Y : Mem), iaddrV 5 tv (.int q (i : Int)) Y = some (.ptr (.hp (slN tv) (slW tv)) (slO tv + i * 5), Y) := fun q Y => LiesD.iaddr ll (by omega) q Y
        have ap : ∀ (q : IntKind) (Y : Mem), iaddrV 5 tv (.int q ((2 * i + 1 : Nat) : Int)) Y = some (.ptr (.hp (slN tv) (slW tv)) (slO tv + (2 * i + 1) * 5), Y) := fun q Y => LiesD.iaddr ll (by omega) q Y
        have bi : ∀ {Y : Mem}, HpSub (Hm Hc) Y → Y.load (.hp (slN tv) (slW tv)) (slO tv + i * 5) (some 5) = some (rtV y) := fun hY => LiesD.loadX rtF_even (by decide) ll hy hY
        have bp : ∀ {Y : Mem}, HpSub (Hm Hc) Y → Y.load (.hp (slN tv) (slW tv)) (slO tv + (2 * i + 1) * 5) (some 5) = some (rtV x1) := fun hY => LiesD.loadX rtF_even (by decide) ll hx1 hY
        obtain ⟨H5, st5, o5, k5, l5⟩ := storeRt ow (i := i) (by omega) X hmt x1
        obtain ⟨H6, st6, o6, k6, l6⟩ := storeRt o5 (i := 2 * i + 1) (by rw [List.length_set]; omega) X hmt y
        rw [← swp_eq hy hx1] at o6
        have hd6 : hget H6 k 0 = some (.cells true (rpC tv n)) := k6.get (k5.get hd nkt) nkt
        have kk6 : Keep (k :: slFp hv) H H6 := (kk.trans' k5 (fun n hn hl => List.mem_cons_of_mem _ (by rw [← fpt]; exact hn))).trans' k6 (fun n hn hl => List.mem_cons_of_mem _ (by rw [← fpt]; exact hn))
        simp (maxDischargeDepth := 8) only [go_sem, hw, hd, rpC, ai, ap, bi, bp, rtV, st5, st6, s2.l]
        rw [KL_keep _ _ _ (by simp (maxDischargeDepth := 8) only [go_sem])]
        simp (maxDischargeDepth := 8) only [go_sem]
        exact ih (2 * i + 1, f, swp Lc i (2 * i + 1), H6) ⟨by dsimp only; rw [swp_len]; exact hlen, by dsimp only; omega, by dsimp only; omega, hup, o6, hd6, kk6⟩ (by dsimp only; omega)
    · have hno : Lc[2 * i + 1]? = none := List.getElem?_eq_none (by omega)
      rw [hno] at hup
      simp (maxDischargeDepth := 8) only [go_sem, hw, show decide (((2 * i + 1 : Nat) : Int) ≥ (T.length : Int)) = true from decide_eq_true (by omega)]
      exact fin_ _ hup rfl
theorem rpush_of {X : Mem} {k : Nat} {hv : SV} {n a b c d : Int} {L : List Rt} {z : Option (SV × Mem)} (hz : RF tb f_heap_Heap_route_open_Push [.ptr (.hp k 0) 0, .agg [.int .i64 a, .int .i64 b, .int .i64 c, .int .i64 d]] X = z) (hO : RHeapOwn X.heap k hv n L) (hb : L.length ≤ 4000000) (hn : 0 ≤ n ∧ n ≤ 1000000000) (hk : X.hb ≤ k) (hm : ∀ i ∈ slFp hv, X.hb ≤ i) (hw : X.Wf) :
    ∃ hv' H' u, z = some (.tup [], (X.hp H').es (escMin X.esc u)) ∧ RHeapOwn H' k hv' (n + 1) (upH rlt (L.length + 1) L.length (L ++ [(a, b, c, d, n)])) ∧ Keep (k :: slFp hv) X.heap H' ∧ (∀ i ∈ slFp hv', i ∈ slFp hv ∨ X.heap.length ≤ i) := by
  rw [← hz]
  exact r_rheap_Push hO hb hn hk hm hw a b c d
theorem rpop_of {X : Mem} {k : Nat} {hv : SV} {n : Int} {a0 : Rt} {T : List Rt} {z : Option (SV × Mem)} (hz : RF tb f_heap_Heap_route_open_Pop [.ptr (.hp k 0) 0] X = z) (hO : RHeapOwn X.heap k hv n (a0 :: T)) (hb : T.length ≤ 4000000) (hk : X.hb ≤ k) (hm : ∀ i ∈ slFp hv, X.hb ≤ i) (hw : X.Wf) :
    ∃ hv' H' u, z = some (.tup [.agg [.int .i64 a0.1, .int .i64 a0.2.1, .int .i64 a0.2.2.1, .int .i64 a0.2.2.2.1], .bool true], (X.hp H').es (escMin X.esc u)) ∧ RHeapOwn H' k hv' n (rpopL (a0 :: T)) ∧ Keep (k :: slFp hv) X.heap H' ∧ (∀ i ∈ slFp hv', i ∈ slFp hv) := by
  rw [← hz]
  exact r_rheap_Pop hO hb hk hm hw
theorem rheap_new (H : Hp) : RHeapOwn (H ++ [(0, .cells true (rpC .nils 0))]) H.length .nils 0 [] := ⟨hget_new0 0 _, Own.nil _, by simp [slFp], rfl⟩
theorem rpop_perm (a0 : Rt) (T : List Rt) : (rpopL (a0 :: T)).Perm T ∧ (HOk rlt (a0 :: T) (fun _ => True) → HOk rlt (rpopL (a0 :: T)) (fun _ => True)) := by
  rcases List.eq_nil_or_concat T with rfl | ⟨T', x, rfl⟩
  · exact ⟨List.Perm.refl _, fun _ => fun j a b _ _ h => by simp [rpopL, downH, kidH] at h⟩
  · have e : rpopL (a0 :: (T' ++ [x])) = downH rlt (T'.length + 1 + 1) 0 (x :: T') := by
      have e1 : (a0 :: (T' ++ [x])).length - 1 = T'.length + 1 := by simp
      have e2 : (a0 :: (T' ++ [x]))[T'.length + 1]? = some x := by simp
      have e3 : ((a0 :: (T' ++ [x])).set 0 x).take (T'.length + 1) = x :: T' := by simp
      have e4 : (a0 :: (T' ++ [x])).length = T'.length + 1 + 1 := by simp
      rw [rpopL, e1, e2]
      dsimp only
      rw [e3, e4]
    rw [List.concat_eq_append] at *
    rw [e]
    refine ⟨(down_perm _ _ _).trans ?_, fun h => ?_⟩
    · exact (List.perm_append_comm (l₁ := [x]) (l₂ := T'))
    · refine down_ok rlt_ord _ 0 _ (by simp) (by simp) ?_ (fun j a b _ _ h => absurd h (Nat.lt_irrefl 0))
      intro j a b hj hp h1 h2
      have hp0 : (j - 1) / 2 ≠ 0 := hp
      have l2 := lt_of_get h2
      simp only [List.length_cons] at l2
      have h1' : (a0 :: (T' ++ [x]))[(j - 1) / 2]? = some a := by
        obtain ⟨q, hq⟩ : ∃ q, (j - 1) / 2 = q + 1 := ⟨(j - 1) / 2 - 1, by omega⟩
        rw [hq, List.getElem?_cons_succ] at h1 ⊢
        rw [List.getElem?_append_left (by omega)]
        exact h1
      have h2' : (a0 :: (T' ++ [x]))[j]? = some b := by
        obtain ⟨q, hq⟩ : ∃ q, j = q + 1 := ⟨j - 1, by omega⟩
        rw [hq, List.getElem?_cons_succ] at h2 ⊢
        rw [List.getElem?_append_left (by omega)]
        exact h2
      exact h j a b hj trivial h1' h2'
theorem rpush_ok {L : List Rt} (h : HOk rlt L (fun _ => True)) (x : Rt) : HOk rlt (upH rlt (L.length + 1) L.length (L ++ [x])) (fun _ => True) := by
  refine up_ok rlt_ord (L.length + 1) L.length _ (Nat.lt_succ_self _) (by simp) ?_ ?_
  · intro j x y hj hne h1 h2
    have l2 := lt_of_get h2
    rw [List.length_append, List.length_singleton] at l2
    have hjl : j < L.length := by have : j ≠ L.length := hne; omega
    rw [List.getElem?_append_left (by omega)] at h1
    rw [List.getElem?_append_left hjl] at h2
    exact h j x y hj trivial h1 h2
  · intro j x y hj hp hpos h1 h2
    have l2 := lt_of_get h2
    rw [List.length_append, List.length_singleton] at l2
    omega
theorem r_rheap_Drain {X : Mem} (hw : X.Wf) (k : Nat) : RF tb f_heap_Heap_route_open_Drain [.ptr (.hp k 0) 0] X = some (.fn f_heap_Heap_route_open_Drain_1 [] [.ptr (.hp X.heap.length 0) 0], X.hp (X.heap ++ [(0, .cells true [.ptr (.hp k 0) 0])])) := by
  rw [RF_go t_heap_Heap_route_open_Drain _ _ rfl, push_hp]
  simp (maxDischargeDepth := 8) only [go_sem, s_heap_Heap_route_open_Drain, hw]
  try rw [if_neg (by show ¬ X.heap.length + 1 ≤ X.heap.length; omega)]
  try rfl
theorem r_rheap_Drain_1 {D i kb k : Nat} (fs : List (List SBk)) (e : Option Nat) {α : Type} (M : α → Mem) (hvf : α → SV) (nf : α → Int) (Lf : α → List Rt) (I : α → Option Nat → Prop) (μ : α → Nat) (Fin : Mem → Option Nat → Prop)
    (base : ∀ a u, I a u → D < (M a).dep ∧ (M a).Wf ∧ (M a).hb ≤ k ∧ (∀ j ∈ slFp (hvf a), (M a).hb ≤ j) ∧ hget (M a).heap kb 0 = some (.cells true [.ptr (.hp k 0) 0]) ∧ RHeapOwn (M a).heap k (hvf a) (nf a) (Lf a) ∧ (Lf a).length ≤ 4000000)
    (hnil : ∀ a u, I a u → Lf a = [] → Fin (M a) u)
    (hstep : ∀ a u x T, I a u → Lf a = x :: T → ∀ hv' H1 u1, RHeapOwn H1 k hv' (nf a) (rpopL (x :: T)) → Keep (k :: slFp (hvf a)) (M a).heap H1 → (∀ j ∈ slFp hv', j ∈ slFp (hvf a)) →
      ∀ g, ∃ m' d go, RV tb (.yld (.st D i)) [.agg [.int .i64 x.1, .int .i64 x.2.1, .int .i64 x.2.2.1, .int .i64 x.2.2.2.1]] ((((M a).hp H1).frs fs e).fr g (escMin u u1)) = some (.bool go, (m'.frs fs e).fr g (escMin (escMin u u1) d)) ∧ (go = false → Fin m' (escMin (escMin u u1) d)) ∧ (go = true → ∃ b, m' = M b ∧ I b (escMin (escMin u u1) d) ∧ μ b < μ a))
    (a0 : α) (h0 : I a0 none) :
    ∃ m' u, RF tb f_heap_Heap_route_open_Drain_1 [.yld (.st D i), .ptr (.hp kb 0) 0] ((M a0).frs fs e) = some (.tup [], (m'.hp (if escOk (M a0).hl u = true then m'.heap.take (M a0).hl else m'.heap)).frs fs (escMin e u)) ∧ Fin m' u := by
  rw [RF_go t_heap_Heap_route_open_Drain_1 _ _ rfl, push_fr]
  simp (maxDischargeDepth := 8) only [go_sem, s_heap_Heap_route_open_Drain_1]
  refine KL_ind (R := fun z => ∃ m' u, fin [] ((M a0).frs fs e) z = some (.tup [], (m'.hp (if escOk (M a0).hl u = true then m'.heap.take (M a0).hl else m'.heap)).frs fs (escMin e u)) ∧ Fin m' u) (α := α × Option Nat) (fun q => μ q.1)
    (fun _ => [(0, .yld (.st D i)), (1, .ptr (.hp kb 0) 0)]) (fun q => ((M q.1).frs fs e).fr [] q.2) (fun q => I q.1 q.2) ?_ (a0, none) h0
  rintro ⟨a, u⟩ hI ih
  dsimp only at hI ⊢
  obtain ⟨hD, hw, hk, hm, hb, hO, hL⟩ := base a u hI
  have hbl : (M a).load (.hp kb 0) 0 none = some (.ptr (.hp k 0) 0) := by rw [load_get]; show (match hget (M a).heap kb 0 with | some (.cells _ c) => partv c 0 none | _ => none) = _; rw [hb]; rfl
  have hw2 : (((M a).frs fs e).fr [] u).Wf := fr_wf (frs_wf hw _ _) _ _
  have hD2 : D < fs.length + (M a).dep := by omega
  cases hLa : Lf a with
  | nil =>
    rw [hLa] at hO
    have hp0 : RF tb f_heap_Heap_route_open_Pop [.ptr (.hp k 0) 0] (((M a).frs fs e).fr [] u) = _ := r_rheap_Pop0 (m := Hm (M a).heap) hO.hd (hO.ow.lies rtF_even) (X := ((M a).frs fs e).fr [] u) (fun _ _ _ h => h) hw2
    simp (maxDischargeDepth := 8) only [go_sem, hw, hD2, hbl, hp0, back_frsD]
    exact ⟨M a, u, rfl, hnil a u hI hLa⟩
  | cons x T =>
    rw [hLa] at hO hL
    simp (maxDischargeDepth := 8) only [go_sem, hw, hD2, hbl]
    generalize hz : RF tb f_heap_Heap_route_open_Pop _ _ = z
    obtain ⟨hv', H1, u1, rfl, hO3, k3, f3⟩ := rpop_of (X := ((M a).frs fs e).fr [] u) hz hO (by simp only [List.length_cons] at hL; omega) hk hm hw2
    obtain ⟨m', d, go, hy, h1, h2⟩ := hstep a u x T hI hLa hv' H1 u1 hO3 k3 f3 [.cells true [.int .i64 x.1, .int .i64 x.2.1, .int .i64 x.2.2.1, .int .i64 x.2.2.2.1]]
    simp (maxDischargeDepth := 8) only [go_sem, hw, hbl, hy]
    cases go with
    | false =>
      simp (maxDischargeDepth := 8) only [go_sem, hw, back_frsD]
      exact ⟨m', _, rfl, h1 rfl⟩
    | true =>
      obtain ⟨b, rfl, hb1, hb2⟩ := h2 rfl
      simp (maxDischargeDepth := 8) only [go_sem, hw]
      have hD3 := (base b _ hb1).1
      have hD4 : D < fs.length + (M b).dep := by omega
      rw [KL_keep _ _ _ (by simp (maxDischargeDepth := 8) only [go_sem, hD4])]
      simp (maxDischargeDepth := 8) only [go_sem]
      exact ih (b, _) hb1 hb2
abbrev Cl := Int × Int
def mvC (c : Cl) (d : Int) : Cl := (c.1 + turnX d, c.2 + turnY d)
theorem cost_pos {d : Int} (h : isDir d = true) : 10 ≤ costP d ∧ costP d ≤ 14 := by
  unfold costP
  rw [if_pos h]
  split <;> omega
section
variable (ok : Cl → Int → Bool)
/-- What some path costs. -/
inductive Pth (s : Cl) : Cl → Int → Prop
  | nil : Pth s s 0
  | step {c : Cl} {v d : Int} (h : Pth s c v) (hk : ok c d = true) : Pth s (mvC c d) (v + costP d)
/-- The least that a path costs. -/
def Mn (s c : Cl) (v : Int) : Prop := Pth ok s c v ∧ ∀ v', Pth ok s c v' → v ≤ v'
end
section
variable {ok : Cl → Int → Bool} {s : Cl}
theorem Pth.nn (hd : ∀ c d, ok c d = true → isDir d = true) {c : Cl} {v : Int} (h : Pth ok s c v) : 0 ≤ v ∧ (c ≠ s → 10 ≤ v) := by
  induction h with
  | nil => exact ⟨Int.le_refl _, fun h => absurd rfl h⟩
  | step h hk ih => have := cost_pos (hd _ _ hk); exact ⟨by omega, fun _ => by omega⟩
theorem Mn.uniq {c : Cl} {v w : Int} (h : Mn ok s c v) (k : Mn ok s c w) : v = w := Int.le_antisymm (h.2 _ k.1) (k.2 _ h.1)
theorem mn_self (hd : ∀ c d, ok c d = true → isDir d = true) : Mn ok s s 0 := ⟨.nil, fun _ h => (h.nn hd).1⟩
theorem exists_min {p : Int → Prop} (h0 : ∀ v, p v → 0 ≤ v) {v : Int} (h : p v) : ∃ m, p m ∧ ∀ v', p v' → m ≤ v' := by
  have key : ∀ (n : Nat) (v : Int), v.toNat ≤ n → p v → ∃ m, p m ∧ ∀ v', p v' → m ≤ v' := by
    intro n
    induction n with
    | zero => intro v hv hp; exact ⟨v, hp, fun v' h' => by have := h0 v hp; have := h0 v' h'; omega⟩
    | succ n ih =>
      intro v hv hp
      by_cases hc : ∃ v', p v' ∧ v' < v
      · obtain ⟨v', h1, h2⟩ := hc
        exact ih v' (by have := h0 v' h1; omega) h1
      · exact ⟨v, hp, fun v' h' => Int.not_lt.1 fun hlt => hc ⟨v', h', hlt⟩⟩
  exact key v.toNat v (Nat.le_refl _) h
theorem Pth.min (hd : ∀ c d, ok c d = true → isDir d = true) {c : Cl} {v : Int} (h : Pth ok s c v) : ∃ m, Mn ok s c m ∧ m ≤ v := by
  obtain ⟨m, h1, h2⟩ := exists_min (fun v h => (Pth.nn hd h).1) h
  exact ⟨m, ⟨h1, h2⟩, h2 _ h⟩
/-- What holds of a search, however far it has come: g: costs, dn: what was looked at, R: which steps were taken from there, E: what is still to be looked at. -/
structure SInv (ok : Cl → Int → Bool) (s : Cl) (g : Cl → Option Int) (dn : Cl → Bool) (R : Cl → Int → Prop) (E : Cl → Int → Prop) : Prop where
  p : ∀ x v, g x = some v → Pth ok s x v
  s0 : g s = some 0
  rd : ∀ x d, R x d → dn x = true
  r : ∀ x d, R x d → ok x d = true → ∃ v v', g x = some v ∧ g (mvC x d) = some v' ∧ v' ≤ v + costP d
  dm : ∀ x, dn x = true → ∃ v, g x = some v ∧ ∀ v', Pth ok s x v' → v ≤ v'
  u : ∀ x v, g x = some v → dn x = false → E x v
  e : ∀ x v, E x v → ∃ v', g x = some v' ∧ v' ≤ v ∧ Pth ok s x v
theorem sinv_new (s : Cl) : SInv ok s (fun x => if x = s then some 0 else none) (fun _ => false) (fun _ _ => False) (fun x v => x = s ∧ v = 0) where
  p x v h := by
    try dsimp only at h
    split at h
    · rename_i e; subst e; cases h; exact .nil
    · cases h
  s0 := by simp
  rd _ _ h := h.elim
  r _ _ h := h.elim
  dm _ h := by cases h
  u x v h _ := by
    try dsimp only at h
    split at h
    · rename_i e; cases h; exact ⟨e, rfl⟩
    · cases h
  e x v h := by obtain ⟨rfl, rfl⟩ := h; exact ⟨0, by simp, Int.le_refl _, .nil⟩
variable {g : Cl → Option Int} {dn : Cl → Bool} {R : Cl → Int → Prop} {E : Cl → Int → Prop}
/-- Along any path: either it was looked at, or something ahead of it waits. -/
theorem SInv.reach (I : SInv ok s g dn R E) (hR : ∀ x d, dn x = true → ok x d = true → R x d) {h : Cl → Int} (hh : ∀ c d, ok c d = true → h c ≤ costP d + h (mvC c d)) {x : Cl} {v : Int} (hp : Pth ok s x v) :
    (dn x = true ∧ ∃ v', g x = some v' ∧ v' ≤ v) ∨ ∃ y w, g y = some w ∧ dn y = false ∧ w + h y ≤ v + h x := by
  induction hp with
  | nil =>
    cases hd : dn s with
    | true => exact .inl ⟨rfl, 0, I.s0, Int.le_refl _⟩
    | false => exact .inr ⟨s, 0, I.s0, hd, Int.le_refl _⟩
  | @step c v d hp hk ih =>
    rcases ih with ⟨h1, v', h2, h3⟩ | ⟨y, w, h1, h2, h3⟩
    · obtain ⟨a, b, q1, q2, q3⟩ := I.r c d (hR c d h1 hk) hk
      rw [h2] at q1; cases q1
      cases hd : dn (mvC c d) with
      | true => exact .inl ⟨rfl, b, q2, by omega⟩
      | false => exact .inr ⟨_, b, q2, hd, by omega⟩
    · exact .inr ⟨y, w, h1, h2, by have := hh c d hk; omega⟩
/-- What comes first, and was not looked at, is told right. -/
theorem SInv.first (I : SInv ok s g dn R E) (hR : ∀ x d, dn x = true → ok x d = true → R x d) {h : Cl → Int} (hh : ∀ c d, ok c d = true → h c ≤ costP d + h (mvC c d)) {c : Cl} {v : Int} (hE : E c v) (hc : dn c = false) (hmin : ∀ y w, E y w → v + h c ≤ w + h y) :
    g c = some v ∧ ∀ v', Pth ok s c v' → v ≤ v' := by
  have hm : ∀ v', Pth ok s c v' → v ≤ v' := by
    intro v' hp
    rcases I.reach hR hh hp with ⟨h1, _⟩ | ⟨y, w, h1, h2, h3⟩
    · rw [hc] at h1; cases h1
    · have := hmin y w (I.u y w h1 h2)
      omega
  obtain ⟨v', h1, h2, _⟩ := I.e c v hE
  have := hm v' (I.p c v' h1)
  obtain rfl : v' = v := by omega
  exact ⟨h1, hm⟩
theorem SInv.skip (I : SInv ok s g dn R E) {E' : Cl → Int → Prop} {c : Cl} (hc : dn c = true) (h1 : ∀ x v, E' x v → E x v) (h2 : ∀ x v, E x v → x ≠ c → E' x v) : SInv ok s g dn R E' :=
  { I with u := fun x v hg hd => h2 x v (I.u x v hg hd) (fun e => by subst e; rw [hc] at hd; cases hd), e := fun x v h => I.e x v (h1 x v h) }
theorem SInv.take (I : SInv ok s g dn R E) {E' : Cl → Int → Prop} {c : Cl} {v : Int} (hc : g c = some v ∧ ∀ v', Pth ok s c v' → v ≤ v') (h1 : ∀ x v, E' x v → E x v) (h2 : ∀ x v, E x v → x ≠ c → E' x v) : SInv ok s g (fun x => if x = c then true else dn x) R E' :=
  { I with
    rd := fun x d h => by have := I.rd x d h; split <;> first | rfl | exact this
    dm := fun x h => by
      try dsimp only at h
      split at h
      · rename_i e; subst e; exact ⟨v, hc⟩
      · exact I.dm x h
    u := fun x w hg hd => by
      try dsimp only at hd
      split at hd
      · cases hd
      · rename_i hne; exact h2 x w (I.u x w hg hd) hne
    e := fun x v h => I.e x v (h1 x v h) }
theorem SInv.relax (I : SInv ok s g dn R E) (hd : ∀ c d, ok c d = true → isDir d = true) {c : Cl} {d v : Int} (hc : dn c = true) (hg : g c = some v) (hk : ok c d = true) (hn : g (mvC c d) = none ∨ ∃ w, g (mvC c d) = some w ∧ v + costP d < w) {R' : Cl → Int → Prop} {E' : Cl → Int → Prop}
    (hR : ∀ x e, R' x e → R x e ∨ (x = c ∧ e = d)) (hE1 : ∀ x w, E' x w → E x w ∨ (x = mvC c d ∧ w = v + costP d)) (hE2 : ∀ x w, E x w → E' x w) (hE3 : E' (mvC c d) (v + costP d)) :
    SInv ok s (fun x => if x = mvC c d then some (v + costP d) else g x) dn R' E' := by
  have hpc := I.p c v hg
  have hpy : Pth ok s (mvC c d) (v + costP d) := .step hpc hk
  have hv := (hpc.nn hd).1
  have hcd := cost_pos (hd c d hk)
  have hdy : dn (mvC c d) = false := by
    cases h : dn (mvC c d) with
    | false => rfl
    | true =>
      obtain ⟨w, h1, h2⟩ := I.dm _ h
      have := h2 _ hpy
      rcases hn with hn | ⟨w', hn, hlt⟩
      · rw [hn] at h1; cases h1
      · rw [hn] at h1; cases h1; omega
  have hys : mvC c d ≠ s := fun e => by
    rcases hn with hn | ⟨w', hn, hlt⟩
    · rw [e, I.s0] at hn; cases hn
    · rw [e, I.s0] at hn; cases hn; omega
  have hne : ∀ x, dn x = true → x ≠ mvC c d := fun x h e => by rw [e, hdy] at h; cases h
  refine ⟨fun x w h => ?_, ?_, fun x e h => ?_, fun x e h hke => ?_, fun x h => ?_, fun x w h hdx => ?_, fun x w h => ?_⟩
  · try dsimp only at h
    split at h
    · rename_i e; subst e; cases h; exact hpy
    · exact I.p x w h
  · rw [if_neg (Ne.symm hys)]; exact I.s0
  · rcases hR x e h with h | ⟨rfl, rfl⟩
    · exact I.rd x e h
    · exact hc
  · rcases hR x e h with h | ⟨rfl, rfl⟩
    · obtain ⟨a, b, q1, q2, q3⟩ := I.r x e h hke
      have hx := hne x (I.rd x e h)
      try dsimp only
      rw [if_neg hx]
      by_cases hxy : mvC x e = mvC c d
      · rw [if_pos hxy]
        rw [hxy] at q2
        rcases hn with hn | ⟨w', hn, hlt⟩
        · rw [hn] at q2; cases q2
        · rw [hn] at q2; cases q2; exact ⟨a, _, q1, rfl, by omega⟩
      · rw [if_neg hxy]; exact ⟨a, b, q1, q2, q3⟩
    · try dsimp only
      rw [if_neg (hne x hc), if_pos rfl]
      exact ⟨v, _, hg, rfl, Int.le_refl _⟩
  · try dsimp only
    rw [if_neg (hne x h)]
    exact I.dm x h
  · try dsimp only at h
    split at h
    · rename_i e; subst e; cases h; exact hE3
    · exact hE2 x w (I.u x w h hdx)
  · try dsimp only
    rcases hE1 x w h with h | ⟨rfl, rfl⟩
    · obtain ⟨w', q1, q2, q3⟩ := I.e x w h
      by_cases hx : x = mvC c d
      · subst hx
        rw [if_pos rfl]
        rcases hn with hn | ⟨w'', hn, hlt⟩
        · rw [hn] at q1; cases q1
        · rw [hn] at q1; cases q1; exact ⟨_, rfl, by omega, q3⟩
      · rw [if_neg hx]; exact ⟨w', q1, q2, q3⟩
    · rw [if_pos rfl]; exact ⟨_, rfl, Int.le_refl _, hpy⟩
theorem SInv.relaxNo (I : SInv ok s g dn R E) {c : Cl} {d v : Int} (hc : dn c = true) (hg : g c = some v) (hn : ok c d = true → ∃ w, g (mvC c d) = some w ∧ w ≤ v + costP d) {R' : Cl → Int → Prop}
    (hR : ∀ x e, R' x e → R x e ∨ (x = c ∧ e = d)) : SInv ok s g dn R' E :=
  { I with
    rd := fun x e h => by
      rcases hR x e h with h | ⟨rfl, rfl⟩
      · exact I.rd x e h
      · exact hc
    r := fun x e h hk => by
      rcases hR x e h with h | ⟨rfl, rfl⟩
      · exact I.r x e h hk
      · obtain ⟨w, h1, h2⟩ := hn hk
        exact ⟨v, w, hg, h1, h2⟩ }
/-- A search that is at its end, as far as B minds: what lies within B was looked at. -/
structure SFin (ok : Cl → Int → Bool) (s : Cl) (g : Cl → Option Int) (dn : Cl → Bool) (h : Cl → Int) (B : Option Int) : Prop where
  p : ∀ x v, g x = some v → Pth ok s x v
  dm : ∀ x, dn x = true → ∃ v, g x = some v ∧ Mn ok s x v
  all : ∀ x v, Pth ok s x v → (∀ b, B = some b → v + h x ≤ b) → dn x = true
theorem SInv.fin (I : SInv ok s g dn R E) (hR : ∀ x d, dn x = true → ok x d = true → R x d) {h : Cl → Int} (hh : ∀ c d, ok c d = true → h c ≤ costP d + h (mvC c d)) {B : Option Int} (hB : ∀ x v, E x v → ∃ b, B = some b ∧ b < v + h x) : SFin ok s g dn h B where
  p := I.p
  dm x hx := by obtain ⟨v, h1, h2⟩ := I.dm x hx; exact ⟨v, h1, I.p x v h1, h2⟩
  all x v hp hb := by
    rcases I.reach hR hh hp with ⟨h1, _⟩ | ⟨y, w, h1, h2, h3⟩
    · exact h1
    · obtain ⟨b, hb1, hb2⟩ := hB y w (I.u y w h1 h2)
      have := hb b hb1
      omega
end
/-- The first direction (of the last n) that will do. -/
noncomputable def firstD (p : Int → Prop) : Nat → Option Int
  | 0 => none
  | n + 1 => open Classical in if p (8 - (n + 1 : Nat)) then some (8 - (n + 1 : Nat)) else firstD p n
theorem firstD_some {p : Int → Prop} {d : Int} : ∀ {n : Nat}, firstD p n = some d → p d
  | 0, h => by cases h
  | n + 1, h => by
    simp only [firstD] at h
    split at h
    · cases h; assumption
    · exact firstD_some h
theorem firstD_none {p : Int → Prop} : ∀ {n : Nat}, firstD p n = none → ∀ k, k < n → ¬ p (8 - (k + 1 : Nat))
  | 0, _, k, hk => absurd hk (Nat.not_lt_zero _)
  | n + 1, h, k, hk => by
    simp only [firstD] at h
    split at h
    · cases h
    · rename_i hn
      by_cases e : k = n
      · subst e; exact hn
      · exact firstD_none h k (by omega)
theorem firstD_ex {p : Int → Prop} {d : Int} (hd : isDir d = true) (h : p d) : ∃ e, firstD p 8 = some e := by
  cases hf : firstD p 8 with
  | some e => exact ⟨e, rfl⟩
  | none =>
    exfalso
    have h8 : 0 ≤ d ∧ d ≤ 7 := by simpa [isDir] using hd
    have := firstD_none hf (7 - d.toNat) (by omega)
    rw [show (8 : Int) - ((7 - d.toNat + 1 : Nat) : Int) = d by omega] at this
    exact this h
section
variable (ok : Cl → Int → Bool) (s : Cl)
def Good (c : Cl) (d : Int) : Prop := ok c d = true ∧ ∃ v, Mn ok s (mvC c d) v ∧ Mn ok s c (v + costP d)
noncomputable def nxtC (c : Cl) : Cl := match firstD (Good ok s c) 8 with
  | some d => mvC c d
  | none => c
noncomputable def wayC : Nat → Cl → List Cl
  | 0, _ => []
  | n + 1, c => if c = s then [] else nxtC ok s c :: wayC n (nxtC ok s c)
/-- What is asked of the steps. -/
structure Edg (ok : Cl → Int → Bool) : Prop where
  dir : ∀ c d, ok c d = true → isDir d = true
  back : ∀ c d, ok c d = true → ok (mvC c d) (backP d) = true ∧ mvC (mvC c d) (backP d) = c ∧ costP (backP d) = costP d
end
section
variable {ok : Cl → Int → Bool} {s : Cl}
theorem good_ex (hE : Edg ok) {c : Cl} {v : Int} (h : Mn ok s c v) (hc : c ≠ s) : ∃ d, Good ok s c d := by
  obtain ⟨hp, hm⟩ := h
  cases hp with
  | nil => exact absurd rfl hc
  | @step x w d hp hk =>
    obtain ⟨h1, h2, h3⟩ := hE.back x d hk
    refine ⟨backP d, h1, w, ?_, ?_⟩
    · rw [h2]
      exact ⟨hp, fun w' hw' => by have := hm _ (.step hw' hk); omega⟩
    · rw [h3]; exact ⟨.step hp hk, hm⟩
theorem nxt_good (hE : Edg ok) {c : Cl} {v : Int} (h : Mn ok s c v) (hc : c ≠ s) : ∃ d, firstD (Good ok s c) 8 = some d ∧ Good ok s c d ∧ nxtC ok s c = mvC c d ∧ Mn ok s (nxtC ok s c) (v - costP d) ∧ isDir d = true := by
  obtain ⟨d, hd⟩ := good_ex hE h hc
  obtain ⟨e, he⟩ := firstD_ex (hE.dir c d hd.1) hd
  have hg := firstD_some he
  have hn : nxtC ok s c = mvC c e := by unfold nxtC; rw [he]
  obtain ⟨h1, w, h2, h3⟩ := hg
  have := h.uniq h3
  refine ⟨e, he, ⟨h1, w, h2, h3⟩, hn, ?_, hE.dir c e h1⟩
  rw [hn, this, show w + costP e - costP e = w by omega]
  exact h2
theorem way_fuel (hE : Edg ok) : ∀ (n m : Nat) {c : Cl} {v : Int}, Mn ok s c v → v.toNat ≤ n → v.toNat ≤ m → wayC ok s n c = wayC ok s m c := by
  intro n
  induction n with
  | zero =>
    intro m c v h hn hm
    have hv : c = s := Classical.byContradiction fun hne => by have := (h.1.nn hE.dir).2 hne; omega
    cases m with
    | zero => rfl
    | succ m => simp only [wayC]; rw [if_pos hv]
  | succ n ih =>
    intro m c v h hn hm
    by_cases hc : c = s
    · cases m with
      | zero => simp only [wayC]; rw [if_pos hc]
      | succ m => simp only [wayC]; rw [if_pos hc, if_pos hc]
    · obtain ⟨d, _, _, _, h3, h4⟩ := nxt_good hE h hc
      have := cost_pos h4
      have hv := (h.1.nn hE.dir).2 hc
      cases m with
      | zero => omega
      | succ m =>
        simp only [wayC]
        rw [if_neg hc, if_neg hc, ih m h3 (by omega) (by omega)]
theorem way_cons (hE : Edg ok) {n : Nat} {c : Cl} {v : Int} (h : Mn ok s c v) (hn : v.toNat ≤ n) (hc : c ≠ s) : wayC ok s n c = nxtC ok s c :: wayC ok s n (nxtC ok s c) := by
  obtain ⟨d, _, _, _, h3, h4⟩ := nxt_good hE h hc
  have := cost_pos h4
  have hv := (h.1.nn hE.dir).2 hc
  cases n with
  | zero => omega
  | succ n =>
    rw [way_fuel hE (n + 1) n h3 (by omega) (by omega)]
    simp only [wayC]
    rw [if_neg hc]
theorem way_nil {n : Nat} : wayC ok s n s = [] := by cases n <;> simp [wayC]
theorem way_len (hE : Edg ok) : ∀ (n : Nat) {c : Cl} {v : Int}, Mn ok s c v → v.toNat ≤ n → 10 * ((wayC ok s n c).length : Int) ≤ v := by
  intro n
  induction n with
  | zero => intro c v h _; have := (h.1.nn hE.dir).1; simp [wayC]; omega
  | succ n ih =>
    intro c v h hn
    by_cases hc : c = s
    · have := (h.1.nn hE.dir).1
      simp only [wayC]; rw [if_pos hc]; simpa using this
    · obtain ⟨d, _, _, _, h3, h4⟩ := nxt_good hE h hc
      have := cost_pos h4
      have := ih h3 (by omega)
      simp only [wayC]; rw [if_neg hc, List.length_cons]
      omega
theorem Pth.trans {a b c : Cl} {v w : Int} (h : Pth ok a b v) (k : Pth ok b c w) : Pth ok a c (v + w) := by
  induction k with
  | nil => simpa using h
  | step k hk ih => rw [← Int.add_assoc]; exact .step ih hk
theorem Pth.lower {h : Cl → Int} (hh : ∀ c d, ok c d = true → h c ≤ costP d + h (mvC c d)) {c : Cl} {v : Int} (hp : Pth ok s c v) : h s ≤ v + h c := by
  induction hp with
  | nil => omega
  | @step c v d hp hk ih => have := hh c d hk; omega
/-- What a search that is at its end tells of the next step. -/
theorem fin_next {g : Cl → Option Int} {dn : Cl → Bool} {h : Cl → Int} {B : Option Int} (F : SFin ok s g dn h B) (hE : Edg ok) (hh : ∀ c d, ok c d = true → h c ≤ costP d + h (mvC c d)) {c : Cl} {v : Int} (hm : Mn ok s c v) (hb : ∀ b, B = some b → v + h c ≤ b) (d : Int) (hk : ok c d = true) :
    Good ok s c d ↔ dn (mvC c d) = true ∧ ∃ w, g (mvC c d) = some w ∧ w + costP d = v := by
  constructor
  · rintro ⟨_, w, h2, h3⟩
    have hv := hm.uniq h3
    have hd : dn (mvC c d) = true := F.all _ w h2.1 fun b e => by
      obtain ⟨q1, q2, q3⟩ := hE.back c d hk
      have h5 := hh _ _ q1
      rw [q2, q3] at h5
      have := hb b e
      omega
    obtain ⟨w', q1, q2⟩ := F.dm _ hd
    obtain rfl := q2.uniq h2
    exact ⟨hd, _, q1, hv.symm⟩
  · rintro ⟨h1, w, h2, h3⟩
    obtain ⟨w', q1, q2⟩ := F.dm _ h1
    rw [h2] at q1; cases q1
    exact ⟨hk, w, q2, by rw [h3]; exact hm⟩
end
/-- A rectangle's cells. -/
structure Bx where
  x : Int
  y : Int
  w : Int
  h : Int
def Bx.has (r : Bx) (c : Cl) : Bool := decide (r.x ≤ c.1) && decide (c.1 < r.x + r.w) && (decide (r.y ≤ c.2) && decide (c.2 < r.y + r.h))
def Bx.ix (r : Bx) (c : Cl) : Nat := ((c.2 - r.y) * r.w + (c.1 - r.x)).toNat
def Bx.at (r : Bx) (i : Nat) : Cl := (r.x + ((i % r.w.toNat : Nat) : Int), r.y + ((i / r.w.toNat : Nat) : Int))
def Bx.n (r : Bx) : Nat := r.w.toNat * r.h.toNat
theorem Bx.has_iff {r : Bx} {c : Cl} : r.has c = true ↔ (r.x ≤ c.1 ∧ c.1 < r.x + r.w) ∧ (r.y ≤ c.2 ∧ c.2 < r.y + r.h) := by simp [Bx.has]
theorem Bx.ix_lt {r : Bx} {c : Cl} (h : r.has c = true) : r.ix c < r.n ∧ r.at (r.ix c) = c ∧ (c.2 - r.y) * r.w + (c.1 - r.x) = (r.ix c : Int) ∧ r.ix c = (c.2 - r.y).toNat * r.w.toNat + (c.1 - r.x).toNat := by
  obtain ⟨⟨h1, h2⟩, h3, h4⟩ := Bx.has_iff.1 h
  obtain ⟨a, ha⟩ : ∃ a : Nat, c.1 - r.x = a := ⟨(c.1 - r.x).toNat, by omega⟩
  obtain ⟨b, hb⟩ : ∃ b : Nat, c.2 - r.y = b := ⟨(c.2 - r.y).toNat, by omega⟩
  obtain ⟨w, hw⟩ : ∃ w : Nat, r.w = w := ⟨r.w.toNat, by omega⟩
  obtain ⟨h, hh⟩ : ∃ h : Nat, r.h = h := ⟨r.h.toNat, by omega⟩
  have e0 : (b : Int) * (w : Int) + (a : Int) = ((b * w + a : Nat) : Int) := by rw [Int.natCast_add, Int.natCast_mul]
  have hix : r.ix c = b * w + a := by unfold Bx.ix; rw [ha, hb, hw, e0, Int.toNat_natCast]
  have haw : a < w := by omega
  have hbh : b < h := by omega
  have hle : (b + 1) * w ≤ h * w := Nat.mul_le_mul_right _ hbh
  rw [Nat.add_mul, Nat.one_mul] at hle
  refine ⟨?_, ?_, ?_, ?_⟩
  · rw [hix]; unfold Bx.n; rw [hw, hh, Int.toNat_natCast, Int.toNat_natCast, Nat.mul_comm w h]; omega
  · unfold Bx.at
    rw [hix, hw, Int.toNat_natCast]
    have q1 : (b * w + a) % w = a := by rw [Nat.mul_comm, Nat.mul_add_mod, Nat.mod_eq_of_lt haw]
    have q2 : (b * w + a) / w = b := by rw [Nat.mul_comm, Nat.mul_add_div (by omega), Nat.div_eq_of_lt haw, Nat.add_zero]
    rw [q1, q2]
    exact Prod.ext (by dsimp only; omega) (by dsimp only; omega)
  · rw [hix, ha, hb, hw, e0]
  · rw [hix, ha, hb, hw, Int.toNat_natCast, Int.toNat_natCast, Int.toNat_natCast]
theorem Bx.at_has {r : Bx} {i : Nat} (h : i < r.n) : r.has (r.at i) = true ∧ r.ix (r.at i) = i := by
  unfold Bx.n at h
  have hw : 0 < r.w.toNat := by
    rcases Nat.eq_zero_or_pos r.w.toNat with e | e
    · rw [e, Nat.zero_mul] at h; omega
    · exact e
  have h1 : i % r.w.toNat < r.w.toNat := Nat.mod_lt _ hw
  have h2 : i / r.w.toNat < r.h.toNat := by rw [Nat.div_lt_iff_lt_mul hw, Nat.mul_comm]; exact h
  have hh : r.has (r.at i) = true := by
    rw [Bx.has_iff]
    unfold Bx.at
    dsimp only
    generalize i % r.w.toNat = a at *
    generalize i / r.w.toNat = b at *
    omega
  refine ⟨hh, ?_⟩
  rw [(Bx.ix_lt hh).2.2.2]
  unfold Bx.at
  dsimp only
  have ee : ∀ (x : Int) (n : Nat), (x + (n : Int) - x).toNat = n := fun x n => by omega
  have e1 : (r.y + ((i / r.w.toNat : Nat) : Int) - r.y).toNat = i / r.w.toNat := ee _ _
  have e2 : (r.x + ((i % r.w.toNat : Nat) : Int) - r.x).toNat = i % r.w.toNat := ee _ _
  rw [e1, e2, Nat.mul_comm]
  exact Nat.div_add_mod i r.w.toNat
section
variable (ok : Cl → Int → Bool) (s : Cl) (r : Bx)
/-- The right numbers. -/
structure CostsOk (l : List Int) : Prop where
  len : l.length = r.n
  val : ∀ c, r.has c = true → ∃ v, l[r.ix c]? = some v ∧ ((0 ≤ v ∧ Mn ok s c v) ∨ (v = -1 ∧ ∀ w, ¬ Pth ok s c w))
def cntL (l : List Int) : Nat := l.countP fun v => decide (0 ≤ v)
def potV (n : Nat) (v : Int) : Nat := if v < 0 then 14 * n + 1 else v.toNat
def potL (n : Nat) : List Int → Nat
  | [] => 0
  | v :: l => potV n v + potL n l
structure BInv (l : List Int) : Prop where
  len : l.length = r.n
  p : ∀ c v, r.has c = true → l[r.ix c]? = some v → 0 ≤ v → Pth ok s c v
  s0 : l[r.ix s]? = some 0
  lo : ∀ v ∈ l, -1 ≤ v
  bd : ∀ v ∈ l, v + 14 ≤ 14 * (cntL l : Int)
def Rlx (l : List Int) (i : Nat) (d : Int) : Prop := ∀ v, l[i]? = some v → 0 ≤ v → ok (r.at i) d = true → ∃ w, l[r.ix (mvC (r.at i) d)]? = some w ∧ 0 ≤ w ∧ w ≤ v + costP d
end
theorem potL_set (n : Nat) : ∀ (l : List Int) (k : Nat) (v x : Int), l[k]? = some x → potL n (l.set k v) + potV n x = potL n l + potV n v
  | [], k, v, x, h => by simp at h
  | a :: l, 0, v, x, h => by simp at h; subst h; simp [potL]; omega
  | a :: l, k + 1, v, x, h => by
    have := potL_set n l k v x (by simpa using h)
    simp only [List.set_cons_succ, potL]
    omega
theorem cntL_set : ∀ (l : List Int) (k : Nat) (v x : Int), l[k]? = some x → cntL (l.set k v) + (if 0 ≤ x then 1 else 0) = cntL l + (if 0 ≤ v then 1 else 0)
  | [], k, v, x, h => by simp at h
  | a :: l, 0, v, x, h => by
    simp at h; subst h
    simp only [List.set_cons_zero, cntL, List.countP_cons, decide_eq_true_eq]
    omega
  | a :: l, k + 1, v, x, h => by
    have := cntL_set l k v x (by simpa using h)
    simp only [cntL] at this
    simp only [List.set_cons_succ, cntL, List.countP_cons]
    omega
theorem cntL_le (l : List Int) : cntL l ≤ l.length := List.countP_le_length
section
variable {ok : Cl → Int → Bool} {s : Cl} {r : Bx}
theorem binv_new (hs : r.has s = true) : BInv ok s r ((List.replicate r.n (-1)).set (r.ix s) 0) := by
  have h1 := (Bx.ix_lt hs).1
  have hc := cntL_set (List.replicate r.n (-1)) (r.ix s) 0 (-1) (by rw [List.getElem?_replicate, if_pos h1])
  have h0 : cntL (List.replicate r.n (-1)) = 0 := by
    unfold cntL
    rw [List.countP_eq_zero]
    intro a ha
    rw [List.eq_of_mem_replicate ha]; decide
  rw [h0] at hc
  simp only [show ¬ ((0 : Int) ≤ -1) by decide, if_false, show (0 : Int) ≤ 0 from Int.le_refl _, if_true] at hc
  refine ⟨by simp, fun c v hcc hv hn => ?_, ?_, fun v hv => ?_, fun v hv => ?_⟩
  · rw [List.getElem?_set, List.length_replicate] at hv
    by_cases e : r.ix s = r.ix c
    · rw [if_pos e, if_pos (by omega)] at hv
      cases hv
      have : c = s := by rw [← (Bx.ix_lt hcc).2.1, ← e, (Bx.ix_lt hs).2.1]
      rw [this]; exact .nil
    · rw [if_neg e, List.getElem?_replicate] at hv
      split at hv
      · cases hv; omega
      · cases hv
  · rw [List.getElem?_set, if_pos rfl, List.length_replicate, if_pos h1]
  · rcases List.mem_or_eq_of_mem_set hv with h | h
    · rw [List.eq_of_mem_replicate h]; omega
    · omega
  · rcases List.mem_or_eq_of_mem_set hv with h | h
    · rw [List.eq_of_mem_replicate h]; omega
    · omega
theorem BInv.relax {l : List Int} (I : BInv ok s r l) (hd : ∀ c d, ok c d = true → isDir d = true ∧ r.has c = true ∧ r.has (mvC c d) = true) {i : Nat} (hi : i < r.n) {d v x : Int} (hv : l[i]? = some v) (h0 : 0 ≤ v) (hk : ok (r.at i) d = true) (hx : l[r.ix (mvC (r.at i) d)]? = some x) (hn : x < 0 ∨ v + costP d < x) :
    BInv ok s r (l.set (r.ix (mvC (r.at i) d)) (v + costP d)) ∧ potL r.n (l.set (r.ix (mvC (r.at i) d)) (v + costP d)) < potL r.n l := by
  obtain ⟨d1, d2, d3⟩ := hd _ _ hk
  have hc := cost_pos d1
  have hp : Pth ok s (r.at i) v := I.p _ v d2 (by rw [(Bx.at_has hi).2]; exact hv) h0
  have hy := Pth.step hp hk
  have hkl : r.ix (mvC (r.at i) d) < l.length := by rw [I.len]; exact (Bx.ix_lt d3).1
  have c1 := cntL_set l _ (v + costP d) x hx
  have p1 := potL_set r.n l _ (v + costP d) x hx
  have b1 := I.bd v (List.mem_of_getElem? hv)
  have hcl := cntL_le l
  rw [I.len] at hcl
  rw [if_pos (show 0 ≤ v + costP d by omega)] at c1
  refine ⟨⟨by rw [List.length_set]; exact I.len, fun c w hcc hw hw0 => ?_, ?_, fun w hw => ?_, fun w hw => ?_⟩, ?_⟩
  · rw [List.getElem?_set] at hw
    by_cases e : r.ix (mvC (r.at i) d) = r.ix c
    · rw [if_pos e, if_pos hkl] at hw
      cases hw
      have : c = mvC (r.at i) d := by rw [← (Bx.ix_lt hcc).2.1, ← e, (Bx.ix_lt d3).2.1]
      rw [this]; exact hy
    · rw [if_neg e] at hw; exact I.p c w hcc hw hw0
  · rw [List.getElem?_set]
    split
    · rename_i e
      rw [e, I.s0] at hx
      cases hx
      omega
    · exact I.s0
  · rcases List.mem_or_eq_of_mem_set hw with h | h
    · exact I.lo w h
    · omega
  · rcases List.mem_or_eq_of_mem_set hw with h | h
    · have := I.bd w h
      split at c1 <;> omega
    · have := I.bd x (List.mem_of_getElem? hx)
      rcases hn with hn | hn
      · rw [if_neg (by omega)] at c1; omega
      · rw [if_pos (by omega)] at c1; omega
  · unfold potV at p1
    rw [if_neg (show ¬ v + costP d < 0 by omega)] at p1
    rcases hn with hn | hn
    · rw [if_pos hn] at p1; omega
    · rw [if_neg (by omega)] at p1; omega
theorem BInv.done {l : List Int} (I : BInv ok s r l) (hd : ∀ c d, ok c d = true → isDir d = true ∧ r.has c = true ∧ r.has (mvC c d) = true) (hs : r.has s = true) (hR : ∀ i, i < r.n → ∀ d, isDir d = true → Rlx ok r l i d) : CostsOk ok s r l := by
  have key : ∀ c v, Pth ok s c v → r.has c = true ∧ ∃ w, l[r.ix c]? = some w ∧ 0 ≤ w ∧ w ≤ v := by
    intro c v h
    induction h with
    | nil => exact ⟨hs, 0, I.s0, Int.le_refl _, Int.le_refl _⟩
    | @step c v d h hk ih =>
      obtain ⟨h1, w, h2, h3, h4⟩ := ih
      obtain ⟨d1, d2, d3⟩ := hd _ _ hk
      obtain ⟨q1, q2, q3, q4⟩ := Bx.ix_lt h1
      have := hR (r.ix c) q1 d d1
      unfold Rlx at this
      rw [q2] at this
      obtain ⟨u, u1, u2, u3⟩ := this w h2 h3 hk
      exact ⟨d3, u, u1, u2, by omega⟩
  refine ⟨I.len, fun c hc => ?_⟩
  have hlt : r.ix c < l.length := by rw [I.len]; exact (Bx.ix_lt hc).1
  obtain ⟨v, hv⟩ : ∃ v, l[r.ix c]? = some v := ⟨_, List.getElem?_eq_getElem hlt⟩
  refine ⟨v, hv, ?_⟩
  by_cases h0 : 0 ≤ v
  · refine .inl ⟨h0, I.p c v hc hv h0, fun w hw => ?_⟩
    obtain ⟨_, u, u1, u2, u3⟩ := key c w hw
    rw [hv] at u1; cases u1
    exact u3
  · refine .inr ⟨by have := I.lo v (List.mem_of_getElem? hv); omega, fun w hw => ?_⟩
    obtain ⟨_, u, u1, u2, u3⟩ := key c w hw
    rw [hv] at u1; cases u1
    exact h0 u2
theorem CostsOk.uniq {l k : List Int} (h : CostsOk ok s r l) (g : CostsOk ok s r k) : l = k := by
  apply List.ext_getElem?
  intro i
  by_cases hi : i < r.n
  · obtain ⟨a1, a2⟩ := Bx.at_has hi
    obtain ⟨v, h1, h2⟩ := h.val _ a1
    obtain ⟨w, g1, g2⟩ := g.val _ a1
    rw [a2] at h1 g1
    rw [h1, g1]
    rcases h2 with ⟨h3, h4⟩ | ⟨h3, h4⟩ <;> rcases g2 with ⟨g3, g4⟩ | ⟨g3, g4⟩
    · rw [h4.uniq g4]
    · exact absurd h4.1 (g4 _)
    · exact absurd g4.1 (h4 _)
    · rw [h3, g3]
  · rw [List.getElem?_eq_none (by rw [h.len]; omega), List.getElem?_eq_none (by rw [g.len]; omega)]
end
theorem SInv.more {ok : Cl → Int → Bool} {s : Cl} {g : Cl → Option Int} {dn : Cl → Bool} {R R' : Cl → Int → Prop} {E : Cl → Int → Prop} (I : SInv ok s g dn R E) (hR : ∀ x e, R' x e → dn x = true ∧ (ok x e = true → R x e)) : SInv ok s g dn R' E :=
  { I with rd := fun x e h => (hR x e h).1, r := fun x e h hk => I.r x e ((hR x e h).2 hk) hk }
/-- What may be stepped to, within a rectangle. -/
def okS (W : Wd) (cl sz : Int) (inR : Cl → Bool) (c : Cl) (d : Int) : Bool := inR c && W.steps cl sz c.1 c.2 d && inR (mvC c d)
def gM (M : List (Cl × Int)) (c : Cl) : Option Int := alGet c M
def dK (K : List (Cl × Bool)) (c : Cl) : Bool := (alGet c K).getD false
def eL (h : Int → Int → Int) (L : List Rt) (x : Cl) (v : Int) : Prop := ∃ n', ((x.1, x.2, v, h x.1 x.2, n') : Rt) ∈ L
/-- How the lists of a search hang together (R: which steps were taken). -/
structure SpI (ok : Cl → Int → Bool) (s : Cl) (h : Int → Int → Int) (N j : Nat) (n : Int) (L : List Rt) (M : List (Cl × Int)) (K : List (Cl × Bool)) (R : Cl → Int → Prop) : Prop where
  ho : HOk rlt L (fun _ => True)
  iv : SInv ok s (gM M) (dK K) R (eL h L)
  re : ∀ x ∈ L, x.2.2.2.1 = h x.1 x.2.1
  lb : ∀ x ∈ L, x.2.2.1 ≤ 14 * (K.length : Int)
  mb : ∀ c v, gM M c = some v → v ≤ 14 * (K.length : Int)
  kn : (K.map Prod.fst).Nodup
  kt : ∀ x ∈ K, x.2 = true
  kl : K.length ≤ N
  nl : (L.length : Int) ≤ n ∧ n + j ≤ 1 + 8 * (K.length : Int)
theorem dK_iff {K : List (Cl × Bool)} (kt : ∀ x ∈ K, x.2 = true) {c : Cl} : dK K c = true ↔ c ∈ K.map Prod.fst := by
  induction K with
  | nil => simp [dK, alGet]
  | cons x K ih =>
    obtain ⟨a, b⟩ := x
    have hb := kt (a, b) List.mem_cons_self
    dsimp only at hb
    subst hb
    have ih := ih fun x hx => kt x (List.mem_cons_of_mem _ hx)
    unfold dK at ih ⊢
    simp only [alGet, List.map_cons, List.mem_cons]
    by_cases e : c = a
    · simp [e]
    · rw [if_neg e, ih]; simp [e]
theorem alGet_no {α β : Type} [DecidableEq α] {k : α} : ∀ {l : List (α × β)}, k ∉ l.map Prod.fst → alGet k l = none
  | [], _ => rfl
  | (a, b) :: l, h => by
    simp only [List.map_cons, List.mem_cons, not_or] at h
    simp only [alGet]
    rw [if_neg h.1]
    exact alGet_no h.2
section
variable {ok : Cl → Int → Bool} {s : Cl} {h : Int → Int → Int} {N j : Nat} {n : Int} {L : List Rt} {M : List (Cl × Int)} {K : List (Cl × Bool)} {R : Cl → Int → Prop}
theorem spi_new (ok : Cl → Int → Bool) (s : Cl) (h : Int → Int → Int) (N : Nat) (R : Cl → Int → Prop) (hR : ∀ x e, ¬ R x e) : SpI ok s h N 0 1 (upH rlt 1 0 [(s.1, s.2, 0, h s.1 s.2, 0)]) [(s, 0)] [] R := by
  have e : upH rlt 1 0 [(s.1, s.2, 0, h s.1 s.2, 0)] = [(s.1, s.2, 0, h s.1 s.2, 0)] := by simp [upH]
  rw [e]
  have hg : gM [(s, 0)] = fun x => if x = s then some 0 else none := by funext x; simp [gM, alGet]
  have hd : dK [] = fun _ => false := by funext x; simp [dK, alGet]
  refine ⟨fun j a b hj _ h1 h2 => ?_, ?_, ?_, ?_, ?_, by simp, by simp, Nat.zero_le _, by simp⟩
  · have := lt_of_get h2; simp at this; omega
  · rw [hg, hd]
    exact { sinv_new (ok := ok) s with
      rd := fun x e h => absurd h (hR x e)
      r := fun x e h => absurd h (hR x e)
      u := fun x v hv hh => by
        obtain ⟨rfl, rfl⟩ := (sinv_new (ok := ok) s).u x v hv hh
        exact ⟨0, by simp⟩
      e := fun x v ⟨n', hx⟩ => by
        simp only [List.mem_singleton, Prod.mk.injEq] at hx
        obtain ⟨h1, h2, h3, _⟩ := hx
        exact (sinv_new (ok := ok) s).e x v ⟨Prod.ext h1 h2, h3⟩ }
  · intro x hx; simp only [List.mem_singleton] at hx; subst hx; rfl
  · intro x hx; simp only [List.mem_singleton] at hx; subst hx; simp
  · intro c v hv; rw [hg] at hv; dsimp only at hv; split at hv
    · cases hv; simp
    · cases hv
/-- What comes first. -/
theorem SpI.min {x : Rt} {T : List Rt} (I : SpI ok s h N j n (x :: T) M K R) (hN : N ≤ 20000) (hd : ∀ c d, ok c d = true → isDir d = true) (hh : ∀ a b, 0 ≤ h a b ∧ h a b ≤ 1000000000) : (0 ≤ x.2.2.1 ∧ x.2.2.1 ≤ 14 * (K.length : Int)) ∧ eL h (x :: T) (x.1, x.2.1) x.2.2.1 ∧ ∀ y w, eL h (x :: T) y w → x.2.2.1 + h x.1 x.2.1 ≤ w + h y.1 y.2 := by
  have hx : x ∈ x :: T := List.mem_cons_self
  have pos : ∀ y ∈ x :: T, 0 ≤ y.2.2.1 := fun y hy => by
    have hE : eL h (x :: T) (y.1, y.2.1) y.2.2.1 := ⟨y.2.2.2.2, by
      have := I.re y hy
      have e : ((y.1, y.2.1, y.2.2.1, h y.1 y.2.1, y.2.2.2.2) : Rt) = y := by rw [← this]
      show (y.1, y.2.1, y.2.2.1, h y.1 y.2.1, y.2.2.2.2) ∈ x :: T
      rw [e]; exact hy⟩
    obtain ⟨_, _, _, hp⟩ := I.iv.e _ _ hE
    exact (hp.nn hd).1
  have hk := I.kl
  refine ⟨⟨pos x hx, I.lb x hx⟩, ⟨x.2.2.2.2, ?_⟩, ?_⟩
  · have := I.re x hx
    have e : ((x.1, x.2.1, x.2.2.1, h x.1 x.2.1, x.2.2.2.2) : Rt) = x := by rw [← this]
    show (x.1, x.2.1, x.2.2.1, h x.1 x.2.1, x.2.2.2.2) ∈ x :: T
    rw [e]; exact hx
  · rintro y w ⟨n', hy⟩
    obtain ⟨i, hi⟩ := List.getElem?_of_mem hy
    have hm := root_min rlt_ord I.ho (a := x) rfl i i _ (Nat.le_refl _) hi
    rw [rlt_no] at hm
    have b1 := pos x hx
    have b2 := I.lb x hx
    have b3 := pos _ hy
    have b4 := I.lb _ hy
    have b5 := hh x.1 x.2.1
    have b6 := hh y.1 y.2
    have b7 := I.re x hx
    dsimp only at hm b3 b4
    unfold sumW at hm
    rw [wrap_small (x := w + h y.1 y.2) (by omega) (by omega), wrap_small (x := x.2.2.1 + x.2.2.2.1) (by omega) (by omega)] at hm
    omega
theorem eL_pop {x : Rt} {T : List Rt} (y : Cl) (w : Int) : (eL h (rpopL (x :: T)) y w → eL h (x :: T) y w) ∧ (eL h (x :: T) y w → y ≠ (x.1, x.2.1) → eL h (rpopL (x :: T)) y w) := by
  have hp := (rpop_perm x T).1
  refine ⟨fun ⟨n', hy⟩ => ⟨n', List.mem_cons_of_mem _ (hp.mem_iff.1 hy)⟩, fun ⟨n', hy⟩ hne => ⟨n', hp.mem_iff.2 ?_⟩⟩
  rcases List.mem_cons.1 hy with e | hy
  · exact absurd (by rw [← e]) hne
  · exact hy
theorem SpI.skip {x : Rt} {T : List Rt} (I : SpI ok s h N j n (x :: T) M K R) (hc : dK K (x.1, x.2.1) = true) : SpI ok s h N j n (rpopL (x :: T)) M K R := by
  obtain ⟨p1, p2⟩ := rpop_perm x T
  refine { I with ho := p2 I.ho, iv := I.iv.skip hc (fun y w => (eL_pop y w).1) (fun y w => (eL_pop y w).2), re := fun y hy => I.re y (List.mem_cons_of_mem _ (p1.mem_iff.1 hy)), lb := fun y hy => I.lb y (List.mem_cons_of_mem _ (p1.mem_iff.1 hy)), nl := ?_ }
  have := I.nl
  rw [p1.length_eq]
  simp only [List.length_cons] at this
  omega
theorem SpI.take {x : Rt} {T : List Rt} (I : SpI ok s h N 0 n (x :: T) M K (fun y _ => dK K y = true)) (hN : N ≤ 20000) (hd : ∀ c d, ok c d = true → isDir d = true) (hh : ∀ a b, 0 ≤ h a b ∧ h a b ≤ 1000000000) (hcs : ∀ c d, ok c d = true → h c.1 c.2 ≤ costP d + h (mvC c d).1 (mvC c d).2) (hc : dK K (x.1, x.2.1) = false) (hK : K.length + 1 ≤ N) :
    gM M (x.1, x.2.1) = some x.2.2.1 ∧ SpI ok s h N 8 n (rpopL (x :: T)) M (alSet (x.1, x.2.1) true K) (fun y e => dK (alSet (x.1, x.2.1) true K) y = true ∧ (y ≠ (x.1, x.2.1) ∨ e < 0)) ∧ (alSet (x.1, x.2.1) true K).length = K.length + 1 ∧ dK (alSet (x.1, x.2.1) true K) (x.1, x.2.1) = true := by
  obtain ⟨p1, p2⟩ := rpop_perm x T
  obtain ⟨m1, m2, m3⟩ := I.min hN hd hh
  have hno : (x.1, x.2.1) ∉ K.map Prod.fst := fun hm => by rw [(dK_iff I.kt).2 hm] at hc; cases hc
  have hal : alSet (x.1, x.2.1) true K = K ++ [((x.1, x.2.1), true)] := alSet_new (alGet_no hno)
  have hdk : dK (alSet (x.1, x.2.1) true K) = fun y => if y = (x.1, x.2.1) then true else dK K y := by
    funext y
    unfold dK
    rw [alGet_set]
    split <;> rfl
  have hf := I.iv.first (fun y e h1 _ => h1) (h := fun c => h c.1 c.2) hcs m2 hc m3
  refine ⟨hf.1, ⟨p2 I.ho, ?_, fun y hy => I.re y (List.mem_cons_of_mem _ (p1.mem_iff.1 hy)), fun y hy => ?_, fun c v hv => ?_, ?_, fun y hy => ?_, ?_, ?_⟩, ?_, ?_⟩
  · rw [hdk]
    refine (I.iv.take hf (fun y w => (eL_pop y w).1) (fun y w => (eL_pop y w).2)).more fun y e hR => ⟨hR.1, fun hk => ?_⟩
    have h1 := hR.1
    rcases hR.2 with h2 | h2
    · dsimp only at h1; rw [if_neg h2] at h1; exact h1
    · have := hd _ _ hk
      simp [isDir] at this
      omega
  · have := I.lb y (List.mem_cons_of_mem _ (p1.mem_iff.1 hy))
    rw [hal, List.length_append, List.length_singleton]
    omega
  · have := I.mb c v hv
    rw [hal, List.length_append, List.length_singleton]
    omega
  · rw [hal, List.map_append, List.nodup_append]
    refine ⟨I.kn, by simp, fun a ha b hb e => ?_⟩
    subst e
    simp at hb
    subst hb
    exact hno ha
  · rw [hal] at hy
    rcases List.mem_append.1 hy with hy | hy
    · exact I.kt y hy
    · simp at hy; subst hy; rfl
  · rw [hal, List.length_append, List.length_singleton]; exact hK
  · have := I.nl
    rw [p1.length_eq, hal, List.length_append, List.length_singleton]
    simp only [List.length_cons] at this
    omega
  · rw [hal, List.length_append]; rfl
  · rw [hdk]; simp
theorem SpI.relax {L : List Rt} (I : SpI ok s h N j n L M K R) (hd : ∀ c d, ok c d = true → isDir d = true) {c : Cl} {d v : Int} (hc : dK K c = true) (hg : gM M c = some v) (hv : v + 14 ≤ 14 * (K.length : Int)) (hk : ok c d = true) (hn : gM M (mvC c d) = none ∨ ∃ w, gM M (mvC c d) = some w ∧ v + costP d < w) {j' : Nat} (hj : j' < j) {R' : Cl → Int → Prop}
    (hR : ∀ x e, R' x e → R x e ∨ (x = c ∧ e = d)) {y1 y2 z : Int} (hy : mvC c d = (y1, y2)) (hz : z = v + costP d) : SpI ok s h N j' (n + 1) (upH rlt (L.length + 1) L.length (L ++ [(y1, y2, z, h y1 y2, n)])) (alSet (y1, y2) z M) K R' := by
  subst hz
  have hp := up_perm (lt := rlt) (L.length + 1) L.length (L ++ [(y1, y2, v + costP d, h y1 y2, n)])
  have hcd := cost_pos (hd c d hk)
  have hmem : ∀ x, x ∈ upH rlt (L.length + 1) L.length (L ++ [(y1, y2, v + costP d, h y1 y2, n)]) ↔ x ∈ L ∨ x = (y1, y2, v + costP d, h y1 y2, n) := fun x => by rw [hp.mem_iff, List.mem_append, List.mem_singleton]
  have hgm : gM (alSet (y1, y2) (v + costP d) M) = fun x => if x = mvC c d then some (v + costP d) else gM M x := by
    funext x
    unfold gM
    rw [alGet_set, hy]
  refine ⟨rpush_ok I.ho _, ?_, fun x hx => ?_, fun x hx => ?_, fun x w hw => ?_, I.kn, I.kt, I.kl, ?_⟩
  · rw [hgm]
    refine I.iv.relax hd hc hg hk hn hR (fun x w hx => ?_) (fun x w hx => ?_) ?_
    · obtain ⟨n', hx⟩ := hx
      rcases (hmem _).1 hx with hx | hx
      · exact .inl ⟨n', hx⟩
      · simp only [Prod.mk.injEq] at hx
        exact .inr ⟨by rw [hy]; exact Prod.ext hx.1 hx.2.1, hx.2.2.1⟩
    · obtain ⟨n', hx⟩ := hx
      exact ⟨n', (hmem _).2 (.inl hx)⟩
    · refine ⟨n, (hmem _).2 (.inr ?_)⟩
      rw [hy]
  · rcases (hmem x).1 hx with hx | rfl
    · exact I.re x hx
    · rfl
  · rcases (hmem x).1 hx with hx | rfl
    · exact I.lb x hx
    · dsimp only; omega
  · rw [hgm] at hw
    dsimp only at hw
    split at hw
    · cases hw; omega
    · exact I.mb x w hw
  · have := I.nl
    rw [hp.length_eq, List.length_append, List.length_singleton]
    omega
theorem SpI.relaxNo {L : List Rt} (I : SpI ok s h N j n L M K R) {c : Cl} {d v : Int} (hc : dK K c = true) (hg : gM M c = some v) (hn : ok c d = true → ∃ w, gM M (mvC c d) = some w ∧ w ≤ v + costP d) {j' : Nat} (hj : j' ≤ j) {R' : Cl → Int → Prop} (hR : ∀ x e, R' x e → R x e ∨ (x = c ∧ e = d)) : SpI ok s h N j' n L M K R' :=
  { I with iv := I.iv.relaxNo hc hg hn hR, nl := by have := I.nl; omega }
theorem SpI.more {L : List Rt} (I : SpI ok s h N j n L M K R) {j' : Nat} (hj : j' ≤ j) {R' : Cl → Int → Prop} (hR : ∀ x e, R' x e → dK K x = true ∧ (ok x e = true → R x e)) : SpI ok s h N j' n L M K R' :=
  { I with iv := I.iv.more hR, nl := by have := I.nl; omega }
end
theorem store_ownY {α : Type} {d : Fl α} {H : Hp} {v : SV} {l : List α} (hd : d.Even) (hp : 0 < d.sz) (hok : ∀ a : α, SV.cellsOk 0 0 (d.enc a) = true) (hx : ∀ a : α, SV.hxs (d.enc a) = 0) (hv : Own d H v l) {i : Nat} (hi : i < l.length) (a : α) :
    ∃ H', (∀ Y : Mem, Y.heap = H → (∀ i ∈ slFp v, Y.hb ≤ i) → Y.store (.hp (slN v) (slW v)) (slO v + i * d.sz) (d.enc a) = some (Y.hp H')) ∧ Own d H' v (l.set i a) ∧ Keep (slFp v) H H' ∧ H'.length = H.length := by
  obtain ⟨H', h1, h2, h3, h4⟩ := store_own hd hp hok hx hv hi (⟨[], H, 0, 0, none⟩ : Mem) (fun _ _ => Nat.zero_le _) a
  refine ⟨H', fun Y hY hYb => ?_, h2, h3, h4⟩
  have := h1 [] none
  rcases hv with ⟨rfl, rfl⟩ | ⟨rfl, rfl⟩ | ⟨n, w, off, cap, c, rfl, q1, q2, q3⟩
  · simp at hi
  · simp at hi
  · subst hY
    have g1 : Y.get (.hp n w) = some (.cells true c) := q1
    have g2 : Y.may (.hp n w) = true := decide_eq_true (hYb n (by simp [slFp]))
    have g1' : (((⟨[], Y.heap, 0, 0, none⟩ : Mem).hp Y.heap).fr [] none).get (.hp n w) = some (.cells true c) := q1
    have g2' : (((⟨[], Y.heap, 0, 0, none⟩ : Mem).hp Y.heap).fr [] none).may (.hp n w) = true := rfl
    have hle : (i + 1) * d.sz ≤ l.length * d.sz := Nat.mul_le_mul_right _ hi
    rw [Nat.add_mul, Nat.one_mul] at hle
    simp only [Mem.store, slN, slW, slO, g1', g2', Bk.room, hok a, true_and, if_true, hd.len, hx a] at this
    rw [if_pos (by omega)] at this
    simp only [Mem.store, slN, slW, slO, g1, g2, Bk.room, hok a, true_and, if_true, hd.len, hx a]
    rw [if_pos (by omega)]
    simp only [Option.some.injEq] at this ⊢
    have e1 := congrArg Mem.heap this
    simp only [Mem.note, Mem.set, Mem.fr, Mem.hp, Nat.zero_le, if_true] at e1 ⊢
    rw [← e1]
theorem KL_indX {F : Tbl} {K : List KI} {α ρ : Type} {k : Nat} {ks : Option (List Nat)} {c : SCode} {cond : Mem → Prop} {G : Mem → Option (SEx × Fr × Mem) → ρ → Prop} {Q : ρ → Prop} (μ : α → Nat) (frf : α → Fr) (memf : Mem → α → Mem) (I : α → Prop)
    (step : ∀ a, I a → (∀ b, I b → μ b < μ a → ∃ r, Q r ∧ ∀ X, cond X → G X (KL F K k ks c (frf b) (memf X b)) r) → ∃ r, Q r ∧ ∀ X, cond X → G X (KH F K k ks c (headL k ks (frf a) (memf X a))) r) :
    ∀ a, I a → ∃ r, Q r ∧ ∀ X, cond X → G X (KL F K k ks c (frf a) (memf X a)) r := by
  have key : ∀ n a, μ a < n → I a → ∃ r, Q r ∧ ∀ X, cond X → G X (KL F K k ks c (frf a) (memf X a)) r := by
    intro n
    induction n with
    | zero => intro a h; omega
    | succ n ih =>
      intro a h hI
      obtain ⟨r, h1, h2⟩ := step a hI fun b hb hlt => ih b (by omega) hb
      exact ⟨r, h1, fun X hX => by rw [KL_go]; exact h2 X hX⟩
  exact fun a => key (μ a + 1) a (by omega)
theorem storeRtY {H : Hp} {v : SV} {l : List Rt} (hv : Own rtF H v l) {i : Nat} (hi : i < l.length) (B : Nat) (hm : ∀ i ∈ slFp v, B ≤ i) (a : Rt) :
    ∃ H', (∀ Y : Mem, Y.heap = H → Y.hb = B → Y.store (.hp (slN v) (slW v)) (slO v + i * 5) [.int .i64 a.1, .int .i64 a.2.1, .int .i64 a.2.2.1, .int .i64 a.2.2.2.1, .int .i64 a.2.2.2.2] = some (Y.hp H')) ∧ Own rtF H' v (l.set i a) ∧ Keep (slFp v) H H' ∧ H'.length = H.length := by
  obtain ⟨H', h1, h2, h3, h4⟩ := store_ownY rtF_even (by decide) (fun _ => rfl) (fun _ => rfl) hv hi a
  exact ⟨H', fun Y e1 e2 => h1 Y e1 (by rw [e2]; exact hm), h2, h3, h4⟩
theorem r_rheap_PushU {H : Hp} {k : Nat} {hv : SV} {n : Int} {L : List Rt} (hO : RHeapOwn H k hv n L) (hb : L.length ≤ 4000000) (hn : 0 ≤ n ∧ n ≤ 1000000000) (B : Nat) (hk : B ≤ k) (hm : ∀ i ∈ slFp hv, B ≤ i) (a b c d : Int) :
    ∃ hv' H' u, (∀ X : Mem, X.heap = H → X.hb = B → X.Wf → RF tb f_heap_Heap_route_open_Push [.ptr (.hp k 0) 0, .agg [.int .i64 a, .int .i64 b, .int .i64 c, .int .i64 d]] X = some (.tup [], (X.hp H').es (escMin X.esc u))) ∧ RHeapOwn H' k hv' (n + 1) (upH rlt (L.length + 1) L.length (L ++ [(a, b, c, d, n)])) ∧ Keep (k :: slFp hv) H H' ∧ (∀ i ∈ slFp hv', i ∈ slFp hv ∨ H.length ≤ i) ∧ ((∀ i ∈ slFp hv', i < k) ∨ u = some k) := by
  obtain ⟨hd, ow, nk, cp⟩ := hO
  have hld : ∀ off q, loadO (hget H k 0) off q = partv (rpC hv n) off q := fun off q => by rw [hd]; rfl
  have s1 := ow.isSl rtF_even
  obtain ⟨H1, hH1⟩ : ∃ H1, H ++ [(0, SBk.cells true [.int .i64 a, .int .i64 b, .int .i64 c, .int .i64 d, .int .i64 n])] = H1 := ⟨_, rfl⟩
  have k1 : Keep [] H H1 := by rw [← hH1]; exact Keep.app _ _ _
  have l1 : H1.length = H.length + 1 := by rw [← hH1, List.length_append]; rfl
  have hyl : LiesD rtF (Hm H1) (.sl (.hp H.length 0) 0 1 (some 1) 5) [(a, b, c, d, n)] := by rw [← hH1]; exact (own_new rtF_even H [(a, b, c, d, n)] (some 1)).lies rtF_even
  obtain ⟨hv', H2, ha, o1, o2, o3, ⟨o4, o5, o6⟩, o7⟩ := app_ownY rtF_even (by decide) rtF_ok hxs_rt (ow.keep k1 (by simp)) hyl (bytes := 40) (by simp only [List.length_singleton, two48]; omega) (by simp only [List.length_singleton, two48]; omega) (⟨[], H1, B, 0, none⟩ : Mem) hm
  have ha' := ha [.int .i64 0, .int .i64 0, .int .i64 0, .int .i64 0, .int .i64 0] rfl (fun _ => true) (ow.aw (fun _ _ => rfl))
  change ∀ Y : Mem, Y.heap = H1 → Y.hb = B → appV 5 40 [.int .i64 0, .int .i64 0, .int .i64 0, .int .i64 0, .int .i64 0] (fun _ => true) hv (.sl (.hp H.length 0) 0 1 (some 1) 5) Y = _ at ha'
  have s2 := o1.isSl rtF_even
  have cp' : capN hv' = true := app_cap (ha' ⟨[], H1, B, 0, none⟩ rfl rfl) cp
  have kl : k < H.length := hget_lt hd
  have nk' : k ∉ slFp hv' := fun h => by
    rcases o3 k h with h | h
    · exact nk h
    · omega
  have hd2 : hget H2 k 0 = some (.cells true (rpC hv n)) := o2.get (k1.get hd (by simp)) nk
  have kl2 : k < H2.length := hget_lt hd2
  obtain ⟨H3, hH3⟩ : ∃ H3, H2.set k (0, SBk.cells true [.fn f_route_ahead [] [], hv', .int .i64 n]) = H3 := ⟨_, rfl⟩
  have hd3 : hget H3 k 0 = some (.cells true [.fn f_route_ahead [] [], hv', .int .i64 n]) := by rw [← hH3, hget_set_eq kl2, if_pos rfl]
  have k3 : Keep [k] H2 H3 := by rw [← hH3]; exact Keep.set (by simp) _ _
  have l3 : H3.length = H2.length := by rw [← hH3, List.length_set]
  have he0 : (∀ i ∈ slFp hv', i < H.length) ∨ escOk H.length (if hv'.hx ≤ k then none else some k) = false := by
    by_cases h : hv'.hx ≤ k
    · exact .inl fun i hi => by rw [hx_fp hi] at h; omega
    · rw [if_neg h]; exact .inr (escOk_some (by omega))
  have hek : (∀ i ∈ slFp hv', i < k) ∨ (if hv'.hx ≤ k then none else some k) = some k := by
    by_cases h : hv'.hx ≤ k
    · exact .inl fun i hi => by rw [hx_fp hi] at h; omega
    · rw [if_neg h]; exact .inr rfl
  obtain ⟨e0, hE0⟩ : ∃ e0, (if hv'.hx ≤ k then none else some k) = e0 := ⟨_, rfl⟩
  rw [hE0] at he0 hek
  obtain ⟨H4, hH4⟩ : ∃ H4, H3.set k (0, SBk.cells true [.fn f_route_ahead [] [], hv', .int .i64 (n + 1)]) = H4 := ⟨_, rfl⟩
  have hd4 : hget H4 k 0 = some (.cells true [.fn f_route_ahead [] [], hv', .int .i64 (n + 1)]) := by rw [← hH4, hget_set_eq (by omega), if_pos rfl]
  have k4 : Keep [k] H3 H4 := by rw [← hH4]; exact Keep.set (by simp) _ _
  have l4 : H4.length = H3.length := by rw [← hH4, List.length_set]
  have o1' : Own rtF H4 hv' (L ++ [(a, b, c, d, n)]) := (o1.keep k3 (fun i hi h => nk' (by rw [List.mem_singleton] at h; rw [← h]; exact hi))).keep k4 (fun i hi h => nk' (by rw [List.mem_singleton] at h; rw [← h]; exact hi))
  have hfp : ∀ i ∈ slFp hv', i ∈ slFp hv ∨ H.length ≤ i := fun i hi => by
    rcases o3 i hi with h | h
    · exact .inl h
    · exact .inr (by omega)
  have kHk : Keep (k :: slFp hv) H H4 := ((((Keep.weak (T := k :: slFp hv) k1 (by simp)).trans' o2 (fun n hn _ => List.mem_cons_of_mem _ hn)).trans' k3 (fun n hn _ => by rw [List.mem_singleton] at hn; rw [hn]; exact List.mem_cons_self)).trans' k4 (fun n hn _ => by rw [List.mem_singleton] at hn; rw [hn]; exact List.mem_cons_self))
  have hm' : ∀ i ∈ slFp hv', B ≤ i := fun i hi => by
    rcases hfp i hi with h | h
    · exact hm i h
    · have := hget_lt hd; omega
  generalize hRr : upH rlt (L.length + 1) L.length (L ++ [(a, b, c, d, n)]) = Rr
  suffices hl : ∃ r, (RHeapOwn r k hv' (n + 1) Rr ∧ Keep (k :: slFp hv) H r) ∧ ∀ X : Mem, (X.heap = H ∧ X.hb = B ∧ X.Wf) → fin [] X (KL tb [.block 0] 1 (some [0, 4]) s_heap_Heap_route_open_Push_p7 [(0, .ptr (.hp k 0) 0), (4, .int .i64 (L.length : Int))] ((X.hp H4).fr [.cells true [.int .i64 a, .int .i64 b, .int .i64 c, .int .i64 d]] e0)) = some (.tup [], (X.hp r).es (escMin X.esc e0)) by
    obtain ⟨r, hr, hX⟩ := hl
    refine ⟨hv', r, e0, fun X hH hhb hw => ?_, hr.1, hr.2, hfp, hek⟩
    have hkb : X.hb ≤ k := by rw [hhb]; exact hk
    rw [RF_go t_heap_Heap_route_open_Push _ _ rfl, push_hp, hH]
    simp (maxDischargeDepth := 8) only [go_sem, s_heap_Heap_route_open_Push, hw, hH, hd, rpC, hH1, ha', hhb, s1.l, s2.l, s2.c, s2.k, s2.o, hd2, hk, hkb]
    rw [hH3, hE0]
    simp (maxDischargeDepth := 8) only [go_sem, hw, hd3, s2.l, s2.c, s2.k, s2.o, hk, hhb, hkb, wrap_small (x := n + 1) (by omega) (by omega)]
    rw [hH4]
    simp (maxDischargeDepth := 8) only [go_sem, hw, hd4, s2.l, s2.c, s2.k, s2.o, hk, hhb, hkb, (o1'.lies rtF_even).len, show ((L ++ [(a, b, c, d, n)]).length : Int) = ((L.length + 1 : Nat) : Int) from by simp, wrap_small (x := ((L.length + 1 : Nat) : Int) - 1) (by omega) (by omega)]
    rw [show ((L.length + 1 : Nat) : Int) - 1 = (L.length : Int) from by omega]
    rw [KL_keep _ _ _ (by simp (maxDischargeDepth := 8) only [go_sem])]
    simp (maxDischargeDepth := 8) only [go_sem]
    exact hX X ⟨hH, hhb, hw⟩
  refine KL_indX (F := tb) (K := [.block 0]) (k := 1) (ks := some [0, 4]) (c := s_heap_Heap_route_open_Push_p7) (cond := fun X => X.heap = H ∧ X.hb = B ∧ X.Wf) (G := fun X z (r : Hp) => fin [] X z = some (.tup [], (X.hp r).es (escMin X.esc e0))) (Q := fun r => RHeapOwn r k hv' (n + 1) Rr ∧ Keep (k :: slFp hv) H r) (α := Nat × Nat × List Rt × Hp) (fun q => q.1)
    (fun q => [(0, .ptr (.hp k 0) 0), (4, .int .i64 (q.1 : Int))])
    (fun X q => (X.hp q.2.2.2).fr [.cells true [.int .i64 a, .int .i64 b, .int .i64 c, .int .i64 d]] e0)
    (fun q => q.1 < q.2.1 ∧ q.1 < q.2.2.1.length ∧ q.2.2.1.length = L.length + 1 ∧ Rr = upH rlt q.2.1 q.1 q.2.2.1 ∧ Own rtF q.2.2.2 hv' q.2.2.1 ∧ hget q.2.2.2 k 0 = some (.cells true (rpC hv' (n + 1))) ∧ Keep (k :: slFp hv) H q.2.2.2) ?_ (L.length, L.length + 1, L ++ [(a, b, c, d, n)], H4) ⟨Nat.lt_succ_self _, by simp, by simp, hRr.symm, o1', hd4, kHk⟩
  clear o1' hd4 kHk hRr
  rintro ⟨i, f, Lc, Hc⟩ ⟨hif, hil, hlen, hup, ow, hd, kk⟩ ih
  dsimp only at hif hil hlen hup ow hd kk ⊢
  obtain ⟨f, rfl⟩ : ∃ g, f = g + 1 := ⟨f - 1, by omega⟩
  simp only [upH] at hup
  by_cases h0 : i = 0
  · subst h0
    rw [if_pos rfl] at hup
    rw [hup]
    refine ⟨if escOk H.length e0 = true then Hc.take H.length else Hc, ⟨rendOwn (X := ⟨[], H, 0, 0, none⟩) hd ow nk' cp' he0 kl, Keep.back0 (X := ⟨[], H, 0, 0, none⟩) kk⟩, fun X ⟨hH, hhb, hw⟩ => ?_⟩
    have hHl : X.hl = H.length := by rw [← hH]; rfl
    simp (maxDischargeDepth := 8) only [go_sem, hw, show decide (((0 : Nat) : Int) > 0) = false from rfl, show decide ((0 : Int) > 0) = false from rfl, hHl]
  · rw [if_neg h0] at hup
    have hq1 : IntKind.wrap .i64 ((i : Int) - 1) = ((i - 1 : Nat) : Int) := by rw [wrap_small (by omega) (by omega)]; omega
    have hq2 : Int.tdiv ((i - 1 : Nat) : Int) 2 = (((i - 1) / 2 : Nat) : Int) := rfl
    obtain ⟨x, hx⟩ : ∃ x, Lc[i]? = some x := ⟨_, List.getElem?_eq_getElem hil⟩
    obtain ⟨y, hy⟩ : ∃ y, Lc[(i - 1) / 2]? = some y := ⟨_, List.getElem?_eq_getElem (by omega)⟩
    rw [hx, hy] at hup
    dsimp only at hup
    have hfi := fun {X : Mem} => r_rheap_first (X := X) (show (Hm Hc).get (.hp k 0) = _ from hd) (ow.lies rtF_even) hx hy
    have wi := wrap_small (x := (((i - 1) / 2 : Nat) : Int)) (by omega) (by omega)
    have hi0 : decide ((i : Int) > 0) = true := decide_eq_true (by omega)
    cases hc : rlt x y with
    | false =>
      rw [hc, if_neg Bool.false_ne_true] at hup
      rw [hup]
      rw [hc] at hfi
      refine ⟨if escOk H.length e0 = true then Hc.take H.length else Hc, ⟨rendOwn (X := ⟨[], H, 0, 0, none⟩) hd ow nk' cp' he0 kl, Keep.back0 (X := ⟨[], H, 0, 0, none⟩) kk⟩, fun X ⟨hH, hhb, hw⟩ => ?_⟩
      have hHl : X.hl = H.length := by rw [← hH]; rfl
      simp (maxDischargeDepth := 8) only [go_sem, hw, hi0, hq1, hq2, wi, hfi, hHl]
    | true =>
      rw [hc, if_pos rfl] at hup
      have ll := ow.lies rtF_even
      have ai : ∀ (q : IntKind) (Y : Mem), iaddrV 5 hv' (.int q (i : Int)) Y = some (.ptr (.hp (slN hv') (slW hv')) (slO hv' + i * 5), Y) := fun q Y => LiesD.iaddr ll hil q Y
      have ap : ∀ (q : IntKind) (Y : Mem), iaddrV 5 hv' (.int q (((i - 1) / 2 : Nat) : Int)) Y = some (.ptr (.hp (slN hv') (slW hv')) (slO hv' + (i - 1) / 2 * 5), Y) := fun q Y => LiesD.iaddr ll (by omega) q Y
      have bi : ∀ {Y : Mem}, HpSub (Hm Hc) Y → Y.load (.hp (slN hv') (slW hv')) (slO hv' + i * 5) (some 5) = some (rtV x) := fun hY => LiesD.loadX rtF_even (by decide) ll hx hY
      have bp : ∀ {Y : Mem}, HpSub (Hm Hc) Y → Y.load (.hp (slN hv') (slW hv')) (slO hv' + (i - 1) / 2 * 5) (some 5) = some (rtV y) := fun hY => LiesD.loadX rtF_even (by decide) ll hy hY
      obtain ⟨H5, st5, o5, k5, l5⟩ := storeRtY ow hil B hm' y
      obtain ⟨H6, st6, o6, k6, l6⟩ := storeRtY o5 (i := (i - 1) / 2) (by rw [List.length_set]; omega) B hm' x
      rw [← swp_eq hx hy] at o6
      have hd6 : hget H6 k 0 = some (.cells true (rpC hv' (n + 1))) := k6.get (k5.get hd nk') nk'
      have kk6 : Keep (k :: slFp hv) H H6 := (kk.trans' k5 (fun n hn hl => List.mem_cons_of_mem _ (by rcases hfp n hn with h | h; exact h; omega))).trans' k6 (fun n hn hl => List.mem_cons_of_mem _ (by rcases hfp n hn with h | h; exact h; omega))
      obtain ⟨r, hr, hX⟩ := ih ((i - 1) / 2, f, swp Lc i ((i - 1) / 2), H6) ⟨by dsimp only; omega, by dsimp only; rw [swp_len]; omega, by dsimp only; rw [swp_len]; exact hlen, hup, o6, hd6, kk6⟩ (by dsimp only; omega)
      rw [hc] at hfi
      refine ⟨r, hr, fun X hc => ?_⟩
      have hX := hX X hc
      obtain ⟨hH, hhb, hw⟩ := hc
      simp (maxDischargeDepth := 8) only [go_sem, hw, hi0, hq1, hq2, wi, hfi]
      simp (maxDischargeDepth := 8) only [go_sem, hw, hhb, hd, rpC, hq1, hq2, wi, ai, ap, bi, bp, rtV, st5, st6, s2.l]
      rw [KL_keep _ _ _ (by simp (maxDischargeDepth := 8) only [go_sem])]
      simp (maxDischargeDepth := 8) only [go_sem]
      exact hX
abbrev srC (p : WP) (cl sz ax ay aw ah : Int) (cv dv : SV) : List SV := [.ptr (.hp p.k 0) 0, .int .i64 cl, .int .i64 sz, .int .i64 ax, .int .i64 ay, .int .i64 aw, .int .i64 ah, cv, dv]
abbrev boolV (b : Bool) : SV := .bool b
structure FnV (D : Nat) (v : SV) : Prop where
  c : v.cells = [v]
  k : v.known = true
  o : ∀ a b, D ≤ a → SV.cell a b v = true
  l : ∀ a b, D ≤ a → SV.lv a b v = true
/-- A memory whose lower frames are another's. -/
def Low (Y X : Mem) : Prop := X.dep ≤ Y.dep ∧ ∀ d i, d < X.dep → Y.get (.st d i) = X.get (.st d i)
theorem low_hp (X : Mem) (H : Hp) : Low (X.hp H) X := ⟨Nat.le_refl _, fun _ _ _ => rfl⟩
theorem low_fr {Y X : Mem} (h : Low Y X) (f : List SBk) (e : Option Nat) : Low (Y.fr f e) X := ⟨by rw [fr_dep]; have := h.1; omega, fun d i hd => by rw [get_lt_fr _ _ _ _ (by have := h.1; omega)]; exact h.2 d i hd⟩
theorem low_frs {Y X : Mem} (h : Low Y X) (f : List (List SBk)) (e : Option Nat) : Low (Y.frs f e) X := ⟨by rw [frs_dep]; have := h.1; omega, fun d i hd => by rw [get_lt_frs _ _ _ _ (by have := h.1; omega)]; exact h.2 d i hd⟩
theorem low_shut {Y X : Mem} (h : Low Y X) : Low Y.shut X := h
theorem RHeapOwn.keep {H H' : Hp} {k : Nat} {v : SV} {n : Int} {L : List Rt} {S : List Nat} (h : RHeapOwn H k v n L) (kp : Keep S H H') (hk : k ∉ S) (hs : ∀ j ∈ slFp v, j ∉ S) : RHeapOwn H' k v n L := ⟨kp.get h.hd hk, h.ow.keep kp hs, h.nk, h.cp⟩
theorem RHeapOwn.congr {H H' : Hp} {k : Nat} {v : SV} {n : Int} {L : List Rt} (h : RHeapOwn H k v n L) (hc : ∀ i, i < H.length → i = k ∨ i ∈ slFp v → H'[i]? = H[i]?) : RHeapOwn H' k v n L := ⟨by rw [hget_congr (hc k (hget_lt h.hd) (.inl rfl))]; exact h.hd, h.ow.congr fun i hi => hc i (h.ow.fp i hi) (.inr hi), h.nk, h.cp⟩
/-- Where the parts of a search lie. -/
structure SpB (H : Hp) (ks kh kc kd : Nat) : Prop where
  s : ks < H.length
  h : kh = H.length
  n : kh < kc ∧ kc < kd
/-- What lies there. -/
structure SpAt (H : Hp) (ks kh kc kd : Nat) (sc : List SV) (Hd : Hp) (hv : SV) (n : Int) (L : List Rt) (M : List (Cl × Int)) (K : List (Cl × Bool)) : Prop where
  o : RHeapOwn Hd kh hv n L
  kk : Keep [ks] H Hd
  s : hget Hd ks 0 = some (.cells true sc)
  c : hget Hd kc 0 = some (.map (alV cellW intV M))
  d : hget Hd kd 0 = some (.map (alV cellW boolV K))
  f : ∀ j ∈ slFp hv, H.length ≤ j ∧ j ≠ kc ∧ j ≠ kd
theorem SpAt.congr {H : Hp} {ks kh kc kd : Nat} {sc : List SV} {Hd Hr : Hp} {hv : SV} {n : Int} {L : List Rt} {M : List (Cl × Int)} {K : List (Cl × Bool)} (B : SpB H ks kh kc kd) (h : SpAt H ks kh kc kd sc Hd hv n L M K) (hc : ∀ i, i < H.length ∨ i = kh ∨ i = kc ∨ i = kd ∨ i ∈ slFp hv → Hr[i]? = Hd[i]?) (hl : H.length ≤ Hr.length) : SpAt H ks kh kc kd sc Hr hv n L M K :=
  ⟨h.o.congr fun i _ hi => hc i (by rcases hi with e | e; exact .inr (.inl e); exact .inr (.inr (.inr (.inr e)))), ⟨hl, fun i hi hn => by rw [hc i (.inl hi), h.kk.2 i hi hn]⟩, by rw [hget_congr (hc ks (.inl B.s))]; exact h.s, by rw [hget_congr (hc kc (.inr (.inr (.inl rfl))))]; exact h.c,
    by rw [hget_congr (hc kd (.inr (.inr (.inr (.inl rfl)))))]; exact h.d, h.f⟩
abbrev spM (X : Mem) (ks kh kb : Nat) (f1 f2 t1 t2 Bd : Int) (rv : SV) (al res : Bool) (st : LoopState) (pd : Option Jump) (H : Hp) (e : Option Nat) : Mem :=
  (X.hp H).fr [.cells true [.ptr (.hp ks 0) 0], .cells true [.int .i64 f1, .int .i64 f2], .cells true [rv], .cells true [.int .i64 t1, .int .i64 t2], .cells true [.bool al], .cells true [.int .i64 Bd], .cells true [.bool res], .cells true [.ptr (.hp kh 0) 0],
    .loop ⟨st, pd, [(6, .ptr (.st X.dep 0) 0), (8, .ptr (.st X.dep 2) 0), (9, .ptr (.st X.dep 3) 0), (10, .ptr (.st X.dep 4) 0), (11, .ptr (.st X.dep 5) 0), (12, .ptr (.st X.dep 6) 0), (13, .ptr (.st X.dep 7) 0), (41, .fn f_heap_Heap_route_open_Drain_1 [] [.ptr (.hp kb 0) 0])], [42], s_route_search_spread_p5, s_route_search_spread_p23⟩] e
theorem dk_getD (c : Cl) (K : List (Cl × Bool)) : (Option.map boolV (alGet c K)).getD (SV.bool false) = .bool (dK K c) := by
  unfold dK
  cases alGet c K <;> rfl
theorem gm_getD (c : Cl) (M : List (Cl × Int)) : (Option.map intV (alGet c M)).getD (SV.int .i64 0) = .int .i64 ((gM M c).getD 0) := by
  unfold gM
  cases alGet c M <;> rfl
theorem gm_some (c : Cl) (M : List (Cl × Int)) : (Option.map intV (alGet c M)).isSome = (gM M c).isSome := by
  unfold gM
  cases alGet c M <;> rfl
/-- Within a step. -/
abbrev roM (X : Mem) (ks kh kb : Nat) (f1 f2 t1 t2 Bd : Int) (rv : SV) (al : Bool) (e : Option Nat) (g : List SBk) (u : Option Nat) (n0 : Nat) (x : Rt) (st : LoopState) (H : Hp) : Mem :=
  ((spM X ks kh kb f1 f2 t1 t2 Bd rv al false .busy none H e).fr g u).fr [.cells true [.int .i64 x.1, .int .i64 x.2.1, .int .i64 x.2.2.1, .int .i64 x.2.2.2.1],
    .loop ⟨st, none, [(6, .ptr (.st X.dep 0) 0), (8, .ptr (.st X.dep 2) 0), (12, .ptr (.st X.dep 6) 0), (13, .ptr (.st X.dep 7) 0), (14, .ptr (.st (X.dep + 1 + 1) 0) 0), (101, .fn f_class_Around_1 [] [.ptr (.hp (n0 + 2) 0) 0, .ptr (.hp n0 0) 0, .ptr (.hp (n0 + 1) 0) 0])], [102, 103], s_route_search_spread_p14, s_route_search_spread_p21⟩] none
theorem back_some {A B : Mem} {g : List SBk} {k h : Nat} (hk : k < B.heap.length) : (A.fr g (some k)).back B h = A.es (escMin B.esc (some k)) := by
  have : escOk B.heap.length (some k) = false := escOk_some (by omega)
  unfold Mem.back
  simp only [Mem.fr, this, Mem.es, List.tail_cons, Bool.false_eq_true, and_false, if_false]
theorem own_fp {α : Type} {d : Fl α} {H : Hp} {v : SV} {l : List α} (h : Own d H v l) (hl : l ≠ []) : ∃ j, j ∈ slFp v := by
  rcases h with ⟨_, rfl⟩ | ⟨_, rfl⟩ | ⟨k, w, off, cap, c, rfl, _⟩
  · exact absurd rfl hl
  · exact absurd rfl hl
  · exact ⟨k, by simp [slFp]⟩
theorem spread_yield {X : Mem} {H : Hp} {ks kh kc kd kb : Nat} {p : WP} (hw : X.Wf) (hhb : X.hb ≤ ks) (hB : SpB H ks kh kc kd) {cl sz ax ay aw ah : Int} {rv : SV} (hrv : FnV X.dep rv) {h : Int → Int → Int}
    (hr : ∀ Y : Mem, Keep [ks] H Y.heap → Low Y X → Y.Wf → ∀ x y, RV tb rv [.agg [.int .i64 x, .int .i64 y]] Y = some (.int .i64 (h x y), Y)) (f1 f2 t1 t2 Bd : Int) (al : Bool) (e : Option Nat) (g : List SBk) (u : Option Nat) (n0 : Nat) (x : Rt)
    {Hj : Hp} {hv : SV} {n : Int} {L : List Rt} {M : List (Cl × Int)} {K : List (Cl × Bool)} (A : SpAt H ks kh kc kd (srC p cl sz ax ay aw ah (.map (.hp kc 0)) (.map (.hp kd 0))) Hj hv n L M K) (hL : L.length ≤ 4000000) (hn : 0 ≤ n ∧ n ≤ 1000000000) (hx : 0 ≤ x.2.2.1 ∧ x.2.2.1 ≤ 1000000000) (dd y1 y2 : Int) :
    (¬ (hasB ax ay aw ah y1 y2 = true ∧ (gM M (y1, y2) = none ∨ ∃ w, gM M (y1, y2) = some w ∧ x.2.2.1 + costP dd < w)) →
      Yields tb (.st (X.dep + 1 + 1) 1) [.int .i64 dd, cellV y1 y2] (roM X ks kh kb f1 f2 t1 t2 Bd rv al e g u n0 x .ready Hj) (roM X ks kh kb f1 f2 t1 t2 Bd rv al e g u n0 x .ready Hj) none true) ∧
    (hasB ax ay aw ah y1 y2 = true ∧ (gM M (y1, y2) = none ∨ ∃ w, gM M (y1, y2) = some w ∧ x.2.2.1 + costP dd < w) →
      ∃ Hj' hv', Yields tb (.st (X.dep + 1 + 1) 1) [.int .i64 dd, cellV y1 y2] (roM X ks kh kb f1 f2 t1 t2 Bd rv al e g u n0 x .ready Hj) (roM X ks kh kb f1 f2 t1 t2 Bd rv al e g u n0 x .ready Hj') (some kh) true ∧
        SpAt H ks kh kc kd (srC p cl sz ax ay aw ah (.map (.hp kc 0)) (.map (.hp kd 0))) Hj' hv' (n + 1) (upH rlt (L.length + 1) L.length (L ++ [(y1, y2, x.2.2.1 + costP dd, h y1 y2, n)])) (alSet (y1, y2) (x.2.2.1 + costP dd) M) K ∧ Keep (kh :: kc :: slFp hv) Hj Hj' ∧ ∀ i ∈ slFp hv', i ∈ slFp hv ∨ Hj.length ≤ i) := by
  have hcd : 0 ≤ costP dd ∧ costP dd ≤ 14 := by unfold costP; split; split <;> omega; omega
  have wv : IntKind.wrap .i64 (x.2.2.1 + costP dd) = x.2.2.1 + costP dd := wrap_small (by omega) (by omega)
  have As := A.s
  have Ac := A.c
  have Ad := A.d
  constructor
  · intro hno fs e2
    rw [RV_go (l := ⟨.ready, none, _, _, _, _⟩) _ _ _ (by simp (maxDischargeDepth := 8) only [go_sem, roM, spM]; rfl) rfl rfl (by simp (maxDischargeDepth := 8) only [go_sem, roM, spM, hw])]
    simp (maxDischargeDepth := 8) only [go_sem, roM, spM, hw, r_cell_Cost, wv, As, Ac, srC, assoc_cell, gm_getD, gm_some, r_cell_Has]
    cases hh : hasB ax ay aw ah y1 y2 with
    | false => simp (maxDischargeDepth := 8) only [go_sem, hw]; try rfl
    | true =>
      cases hgm : gM M (y1, y2) with
      | none => exact absurd ⟨hh, .inl hgm⟩ hno
      | some w =>
        simp (maxDischargeDepth := 8) only [go_sem, hw, Option.getD_some, Option.isSome_some, show decide (x.2.2.1 + costP dd < w) = false from decide_eq_false fun hc => hno ⟨hh, .inr ⟨w, hgm, hc⟩⟩]
        try rfl
  · rintro ⟨hh, hgm⟩
    have hks := hB.s
    have hkh := hB.h
    have hkn := hB.n
    have eset : assocSet (.agg [.int .i64 y1, .int .i64 y2]) (.int .i64 (x.2.2.1 + costP dd)) (alV cellW intV M) = alV cellW intV (alSet (y1, y2) (x.2.2.1 + costP dd) M) := set_al seq_cell (y1, y2) (x.2.2.1 + costP dd) M
    obtain ⟨H2, hH2⟩ : ∃ H2, Hj.set kc (0, SBk.map (alV cellW intV (alSet (y1, y2) (x.2.2.1 + costP dd) M))) = H2 := ⟨_, rfl⟩
    have k2 : Keep [kc] Hj H2 := by rw [← hH2]; exact Keep.set (by simp) _ _
    have l2 : H2.length = Hj.length := by rw [← hH2, List.length_set]
    have kcl := hget_lt Ac
    have c2 : hget H2 kc 0 = some (.map (alV cellW intV (alSet (y1, y2) (x.2.2.1 + costP dd) M))) := by rw [← hH2, hget_set_eq kcl, if_pos rfl]
    have A2 : SpAt H ks kh kc kd (srC p cl sz ax ay aw ah (.map (.hp kc 0)) (.map (.hp kd 0))) H2 hv n L (alSet (y1, y2) (x.2.2.1 + costP dd) M) K :=
      ⟨A.o.keep k2 (by simp; omega) (fun j hj => by have := A.f j hj; simp; omega), A.kk.trans' k2 (fun m hm hl => by simp at hm; omega), k2.get As (by simp; omega), c2, k2.get Ad (by simp; omega), A.f⟩
    obtain ⟨hv', H3, e3, hP, o3, k3, f3, n3⟩ := r_rheap_PushU A2.o hL hn X.hb (by omega) (fun j hj => by have := (A.f j hj).1; omega) y1 y2 (x.2.2.1 + costP dd) (h y1 y2)
    have k23 : Keep (kh :: kc :: slFp hv) Hj H3 := (Keep.weak (T := kh :: kc :: slFp hv) k2 (by simp)).trans' k3 (fun m hm _ => by
      rcases List.mem_cons.1 hm with h' | h'
      · simp [h']
      · simp [h'])
    have f3' : ∀ j ∈ slFp hv', H.length ≤ j ∧ j ≠ kc ∧ j ≠ kd := fun j hj => by
      have kdl := hget_lt Ad
      rcases f3 j hj with h' | h'
      · exact A.f j h'
      · have := A.kk.1; omega
    have ne3 : e3 = some kh := by
      rcases n3 with h' | h'
      · obtain ⟨j, hj⟩ := own_fp o3.ow (by intro hc; have := congrArg List.length hc; rw [(up_perm _ _ _).length_eq, List.length_append] at this; simp at this)
        have a1 := h' j hj
        have a2 := (f3' j hj).1
        omega
      · exact h'
    subst ne3
    have hnk : ∀ S : Nat, S ≠ kh → (∀ j ∈ slFp hv, j ≠ S) → S ∉ kh :: slFp hv := fun S h1 h2 hc => by
      rcases List.mem_cons.1 hc with h' | h'
      · exact h1 h'
      · exact h2 S h' rfl
    have A3 : SpAt H ks kh kc kd (srC p cl sz ax ay aw ah (.map (.hp kc 0)) (.map (.hp kd 0))) H3 hv' (n + 1) (upH rlt (L.length + 1) L.length (L ++ [(y1, y2, x.2.2.1 + costP dd, h y1 y2, n)])) (alSet (y1, y2) (x.2.2.1 + costP dd) M) K := by
      refine ⟨o3, A2.kk.trans' k3 (fun m hm hl => ?_), k3.get A2.s (hnk _ (by omega) fun j hj => ?_), k3.get A2.c (hnk _ (by omega) fun j hj => ?_), k3.get A2.d (hnk _ (by omega) fun j hj => ?_), f3'⟩
      · rcases List.mem_cons.1 hm with h' | h'
        · omega
        · have := (A.f m h').1; omega
      · have := (A.f j hj).1; omega
      · exact (A.f j hj).2.1
      · exact (A.f j hj).2.2
    refine ⟨H3, hv', ?_, A3, k23, fun i hi => by rw [← l2]; exact f3 i hi⟩
    intro fs e2
    have hbc : X.hb ≤ kc := by omega
    rw [RV_go (l := ⟨.ready, none, _, _, _, _⟩) _ _ _ (by simp (maxDischargeDepth := 8) only [go_sem, roM, spM]; rfl) rfl rfl (by simp (maxDischargeDepth := 8) only [go_sem, roM, spM, hw])]
    rcases hgm with hgm | ⟨w, hgm, hlt⟩
    · simp (maxDischargeDepth := 8) only [go_sem, roM, spM, hw, r_cell_Cost, wv, As, Ac, srC, assoc_cell, gm_getD, gm_some, r_cell_Has, hh, hgm, Option.getD_none, Option.isSome_none, hbc, eset, hH2, hrv.l, hrv.c, hrv.k, hrv.o]
      rw [hr _ A2.kk (low_shut (low_fr (low_frs (low_fr (low_fr (low_fr (low_hp X _) _ _) _ _) _ _) _ _) _ _)) (by simp (maxDischargeDepth := 8) only [go_sem, hw])]
      simp (maxDischargeDepth := 8) only [go_sem, hw]
      generalize hz : RF tb f_heap_Heap_route_open_Push _ _ = z
      obtain rfl := hz.symm.trans (hP _ (by rfl) (by rfl) (by simp (maxDischargeDepth := 8) only [go_sem, hw]))
      simp (maxDischargeDepth := 8) only [go_sem, hw]
      rw [back_some (by have := A.kk.1; show kh < Hj.length; have := hget_lt A.o.hd; omega)]
      rfl
    · have hdl : decide (x.2.2.1 + costP dd < w) = true := decide_eq_true hlt
      simp (maxDischargeDepth := 8) only [go_sem, roM, spM, hw, r_cell_Cost, wv, As, Ac, srC, assoc_cell, gm_getD, gm_some, r_cell_Has, hh, hgm, Option.getD_some, Option.isSome_some, hbc, eset, hH2, hrv.l, hrv.c, hrv.k, hrv.o]
      simp (maxDischargeDepth := 8) only [go_sem, hw, hdl, As, Ac, srC, assoc_cell, hbc, eset, hH2, hrv.l, hrv.c, hrv.k, hrv.o]
      rw [hr _ A2.kk (low_shut (low_fr (low_frs (low_fr (low_fr (low_fr (low_hp X _) _ _) _ _) _ _) _ _) _ _)) (by simp (maxDischargeDepth := 8) only [go_sem, hw])]
      simp (maxDischargeDepth := 8) only [go_sem, hw]
      generalize hz : RF tb f_heap_Heap_route_open_Push _ _ = z
      obtain rfl := hz.symm.trans (hP _ (by rfl) (by rfl) (by simp (maxDischargeDepth := 8) only [go_sem, hw]))
      simp (maxDischargeDepth := 8) only [go_sem, hw]
      rw [back_some (by have := A.kk.1; show kh < Hj.length; have := hget_lt A.o.hd; omega)]
      rfl
theorem spread_take {X : Mem} {H : Hp} {ks kh kc kd kb : Nat} {p : WP} {W : Wd} (hH : X.heap = H) (hW : WorldOwn H p W) (hg : W.Good) (hpk : ks ∉ p.fp) (hw : X.Wf) (hhb : X.hb ≤ ks) (hB : SpB H ks kh kc kd) {cl sz ax ay aw ah : Int} {rv : SV} (hrv : FnV X.dep rv) {h : Int → Int → Int}
    (hr : ∀ Y : Mem, Keep [ks] H Y.heap → Low Y X → Y.Wf → ∀ x y, RV tb rv [.agg [.int .i64 x, .int .i64 y]] Y = some (.int .i64 (h x y), Y)) (f1 f2 t1 t2 : Int) (al : Bool) (e : Option Nat) {N : Nat} (hN : N ≤ 20000) (hh : ∀ a b, 0 ≤ h a b ∧ h a b ≤ 1000000000) (hcs : ∀ c d, okS W cl sz (fun c => hasB ax ay aw ah c.1 c.2) c d = true → h c.1 c.2 ≤ costP d + h (mvC c d).1 (mvC c d).2)
    {Ha : Hp} {hv : SV} {n Bd : Int} {x : Rt} {T : List Rt} {M : List (Cl × Int)} {K : List (Cl × Bool)} (A : SpAt H ks kh kc kd (srC p cl sz ax ay aw ah (.map (.hp kc 0)) (.map (.hp kd 0))) Ha hv n (x :: T) M K) (I : SpI (okS W cl sz (fun c => hasB ax ay aw ah c.1 c.2)) (f1, f2) h N 0 n (x :: T) M K (fun y _ => dK K y = true))
    (hkb : hget Ha kb 0 = some (.cells true [.ptr (.hp kh 0) 0])) (hkb1 : kd < kb ∧ ∀ j ∈ slFp hv, j ≠ kb) {hv' : SV} {H1 : Hp} (u : Option Nat) (o1 : RHeapOwn H1 kh hv' n (rpopL (x :: T))) (k1 : Keep (kh :: slFp hv) Ha H1) (f1' : ∀ j ∈ slFp hv', j ∈ slFp hv) (g : List SBk) (s1 : hget H1 ks 0 = some (.cells true (srC p cl sz ax ay aw ah (.map (.hp kc 0)) (.map (.hp kd 0))))) (d1 : hget H1 kd 0 = some (.map (alV cellW boolV K))) (c1 : hget H1 kc 0 = some (.map (alV cellW intV M))) (kk1 : Keep [ks] H H1) (hdk : dK K (x.1, x.2.1) = false) (hbd : decide (IntKind.i64.wrap (Bd - 1) < 0) = false) (hin : hasB ax ay aw ah x.1 x.2.1 = true) (hKN : K.length + 1 ≤ N) :
    ∃ (m' : Mem) (d : Option Nat), finR ((spM X ks kh kb f1 f2 t1 t2 Bd rv al false .ready none H1 e).fr g u) (.st X.dep 8)
      (KC tb [KI.kp [6, 8, 12, 13, 14], KI.seq ((SCode.kp [6, 8, 12, 13, 14] s_route_search_spread_p12).seq ((SCode.kp [6, 8, 12, 13, 14, 101] s_route_search_spread_p13).seq (SCode.block 2 (SCode.rangef (Opd.t 101) [102, 103] s_route_search_spread_p14 s_route_search_spread_p21)))), KI.block 1]
        (SV.bool (decide (IntKind.i64.wrap (Bd - 1) < 0))) ((SCode.region false [{ dst := none, op := SOp.store 1 [] (Opd.t 12) (Opd.v (SV.bool false)), guard := none, quiet := false }]).seq SCode.ret) SCode.skip
        [(84, SV.bool (decide (IntKind.i64.wrap (Bd - 1) < 0))), (83, SV.int IntKind.i64 (IntKind.i64.wrap (Bd - 1))), (82, SV.int IntKind.i64 (IntKind.i64.wrap (Bd - 1))), (81, SV.int IntKind.i64 Bd), (6, SV.ptr (Bk.st X.dep 0) 0), (8, SV.ptr (Bk.st X.dep 2) 0), (11, SV.ptr (Bk.st X.dep 5) 0), (12, SV.ptr (Bk.st X.dep 6) 0), (13, SV.ptr (Bk.st X.dep 7) 0), (14, SV.ptr (Bk.st (X.dep + 1 + 1) 0) 0)]
        (((spM X ks kh kb f1 f2 t1 t2 (IntKind.i64.wrap (Bd - 1)) rv al false .busy none H1 e).fr g u).fr [.cells true [.int .i64 x.1, .int .i64 x.2.1, .int .i64 x.2.2.1, .int .i64 x.2.2.2.1]] none)) = some (.bool true, (m'.frs [] e).fr g (escMin u d)) ∧
      ∃ Hr hv2 n2 L2 M2, m' = spM X ks kh kb f1 f2 t1 t2 (IntKind.i64.wrap (Bd - 1)) rv al false .ready none Hr e ∧ SpAt H ks kh kc kd (srC p cl sz ax ay aw ah (.map (.hp kc 0)) (.map (.hp kd 0))) Hr hv2 n2 L2 M2 (alSet (x.1, x.2.1) true K) ∧
        SpI (okS W cl sz (fun c => hasB ax ay aw ah c.1 c.2)) (f1, f2) h N 0 n2 L2 M2 (alSet (x.1, x.2.1) true K) (fun y _ => dK (alSet (x.1, x.2.1) true K) y = true) ∧ (alSet (x.1, x.2.1) true K).length = K.length + 1 ∧ hget Hr kb 0 = some (.cells true [.ptr (.hp kh 0) 0]) ∧ ∀ j ∈ slFp hv2, j ≠ kb := by
  have hkb' : X.hb ≤ kd := by have := hB.s; have := hB.h; have := hB.n; omega
  have eset : assocSet (.agg [.int .i64 x.1, .int .i64 x.2.1]) (.bool true) (alV cellW boolV K) = alV cellW boolV (alSet (x.1, x.2.1) true K) := set_al seq_cell (x.1, x.2.1) true K
  obtain ⟨H2, hH2⟩ : ∃ H2, H1.set kd (0, SBk.map (alV cellW boolV (alSet (x.1, x.2.1) true K))) = H2 := ⟨_, rfl⟩
  have k2 : Keep [kd] H1 H2 := by rw [← hH2]; exact Keep.set (by simp) _ _
  have l2 : H2.length = H1.length := by rw [← hH2, List.length_set]
  have kdl := hget_lt d1
  have d2 : hget H2 kd 0 = some (.map (alV cellW boolV (alSet (x.1, x.2.1) true K))) := by rw [← hH2, hget_set_eq kdl, if_pos rfl]
  have s2 := k2.get s1 (by simp; have := hB.s; have := hB.h; have := hB.n; omega)
  have c2 := k2.get c1 (by simp; have := hB.s; have := hB.h; have := hB.n; omega)
  have hd : ∀ c d, okS W cl sz (fun c => hasB ax ay aw ah c.1 c.2) c d = true → isDir d = true := fun c d hk => by
    simp only [okS, Bool.and_eq_true] at hk
    have h1 := steps_dir hk.1.2
    simp only [stepOk, Bool.and_eq_true] at h1
    exact h1.1.1
  have hm := I.min hN hd hh
  obtain ⟨q1, q2, q3, q4⟩ := I.take hN hd hh hcs hdk hKN
  generalize hK' : alSet (x.1, x.2.1) true K = K' at *
  generalize hok : okS W cl sz (fun c => hasB ax ay aw ah c.1 c.2) = ok at *
  have hBs := hB.s
  have hBh := hB.h
  have hBn := hB.n
  have fp1 := o1.ow.fp
  have A2 : SpAt H ks kh kc kd (srC p cl sz ax ay aw ah (.map (.hp kc 0)) (.map (.hp kd 0))) H2 hv' n (rpopL (x :: T)) M K' :=
    ⟨o1.keep k2 (by simp; omega) (fun j hj => by have := A.f j (f1' j hj); simp; omega), kk1.trans' k2 (fun m hm hl => by simp at hm; omega), s2, c2, d2, fun j hj => A.f j (f1' j hj)⟩
  have kbl := hget_lt hkb
  have hkb1' : hget H1 kb 0 = some (.cells true [.ptr (.hp kh 0) 0]) := k1.get hkb (fun hc => by
    rcases List.mem_cons.1 hc with h' | h'
    · omega
    · exact hkb1.2 _ h' rfl)
  have hkb2 := k2.get hkb1' (by simp; omega)
  have kbl2 := hget_lt hkb1'
  simp (maxDischargeDepth := 8) only [go_sem, spM, hw, hbd, s1, srC, d1, hkb', assoc_cell, eset, hH2, s2, r_class_Around]
  obtain ⟨HA, hHA⟩ : ∃ HA, H2 ++ [(0, SBk.cells true [.ptr (.hp p.k 0) 0]), (0, .cells true [.int .i64 cl, .int .i64 sz]), (0, .cells true [.int .i64 x.1, .int .i64 x.2.1])] = HA := ⟨_, rfl⟩
  have kA : Keep [] H2 HA := by rw [← hHA]; exact Keep.app _ _ _
  have lA : HA.length = H2.length + 3 := by rw [← hHA, List.length_append]; rfl
  have a0 : hget HA H2.length 0 = some (.cells true [.ptr (.hp p.k 0) 0]) := by rw [← hHA]; exact hget_new0 0 _
  have a1 : hget HA (H2.length + 1) 0 = some (.cells true [.int .i64 cl, .int .i64 sz]) := by rw [← hHA]; exact hget_newi 1 0 _
  have a2 : hget HA (H2.length + 2) 0 = some (.cells true [.int .i64 x.1, .int .i64 x.2.1]) := by rw [← hHA]; exact hget_newi 2 0 _
  obtain ⟨HB, hHB⟩ : ∃ HB, HA ++ [(0, SBk.cells true [.int .i64 x.1, .int .i64 x.2.1]), (0, .cells true [.int .i64 0, .int .i64 0, .int .i64 W.w, .int .i64 W.h])] = HB := ⟨_, rfl⟩
  have kB : Keep [] HA HB := by rw [← hHB]; exact Keep.app _ _ _
  have lB : HB.length = HA.length + 2 := by rw [← hHB, List.length_append]; rfl
  have b4 : hget HB HA.length 0 = some (.cells true [.int .i64 x.1, .int .i64 x.2.1]) := by rw [← hHB]; exact hget_new0 0 _
  have b5 : hget HB (HA.length + 1) 0 = some (.cells true [.int .i64 0, .int .i64 0, .int .i64 W.w, .int .i64 W.h]) := by rw [← hHB]; exact hget_newi 1 0 _
  have ko : ∀ {A' B' : Hp} {hv n L M K}, Keep [] A' B' → SpAt H ks kh kc kd (srC p cl sz ax ay aw ah (.map (.hp kc 0)) (.map (.hp kd 0))) A' hv n L M K → SpAt H ks kh kc kd (srC p cl sz ax ay aw ah (.map (.hp kc 0)) (.map (.hp kd 0))) B' hv n L M K := fun k a =>
    ⟨a.o.keep k (by simp) (by simp), a.kk.trans' k (by simp), k.get a.s (by simp), k.get a.c (by simp), k.get a.d (by simp), a.f⟩
  have AB := ko kB (ko kA A2)
  have hAr : ∀ {Hj hv n L M}, SpAt H ks kh kc kd (srC p cl sz ax ay aw ah (.map (.hp kc 0)) (.map (.hp kd 0))) Hj hv n L M K' → Keep (kh :: kc :: slFp hv') HB Hj → ArAt (X.dep + 1 + 1 + 1) (H2.length + 2) H2.length (H2.length + 1) HA.length p W cl sz x.1 x.2.1 (roM X ks kh kb f1 f2 t1 t2 (IntKind.i64.wrap (Bd - 1)) rv al e g u H2.length x .ready Hj) := fun {Hj hv n L M} a k => by
    have nn : ∀ n, H2.length ≤ n → n ∉ kh :: kc :: slFp hv' := fun n hn hc => by
      have e1 := hget_lt c2
      rcases List.mem_cons.1 hc with h' | hc
      · omega
      · rcases List.mem_cons.1 hc with h' | hc
        · omega
        · have := fp1 _ hc; omega
    exact ⟨rfl, by simp (maxDischargeDepth := 8) only [go_sem, hw], k.get (kB.get a2 (by simp)) (nn _ (by omega)), k.get (kB.get a0 (by simp)) (nn _ (by omega)), k.get (kB.get a1 (by simp)) (nn _ (by omega)), (hW.keep a.kk (fun i hi hc => by simp at hc; subst hc; exact hpk hi)).at_.sub (by simp (maxDischargeDepth := 8) only [go_sem]), k.get b4 (nn _ (by omega)), k.get b5 (nn _ (by omega))⟩
  generalize hz : RF tb f_class_Around_1 _ _ = z
  replace hz : RF tb f_class_Around_1 [.yld (.st (X.dep + 1 + 1) 1), .ptr (.hp (H2.length + 2) 0) 0, .ptr (.hp H2.length 0) 0, .ptr (.hp (H2.length + 1) 0) 0] (roM X ks kh kb f1 f2 t1 t2 (IntKind.i64.wrap (Bd - 1)) rv al e g u H2.length x .ready HA) = z := by rw [← hHA]; exact hz
  refine around_rangeZ (d := X.dep + 1 + 1 + 1) (p := p) hz hg cl sz x.1 x.2.1 (fun M1 j m v => ∃ Hj hvj nj Lj Mj, m = roM X ks kh kb f1 f2 t1 t2 (IntKind.i64.wrap (Bd - 1)) rv al e g u H2.length x .ready Hj ∧ SpAt H ks kh kc kd (srC p cl sz ax ay aw ah (.map (.hp kc 0)) (.map (.hp kd 0))) Hj hvj nj Lj Mj K' ∧
      SpI ok (f1, f2) h N j nj Lj Mj K' (fun y e => dK K' y = true ∧ (y ≠ (x.1, x.2.1) ∨ e < 8 - (j : Int))) ∧ gM Mj (x.1, x.2.1) = some x.2.2.1 ∧ Keep (kh :: kc :: slFp hv') HB Hj ∧ (∀ i ∈ slFp hvj, i ∈ slFp hv' ∨ HB.length ≤ i) ∧ ((v = none ∧ Hj.length = HB.length ∧ ∀ i ∈ slFp hvj, i ∈ slFp hv') ∨ v = some kh)) (fun _ _ _ _ => False) (by omega) ?_ ?_ ?_ ?_ ?_ ?_ ?_ ?_
  · have := hAr AB (Keep.refl _ _)
    rw [← hHB] at this
    exact this
  · exact (hW.keep (ko kA A2).kk (fun i hi hc => by simp at hc; subst hc; exact hpk hi)).at_.sub (by simp (maxDischargeDepth := 8) only [go_sem])
  · show H2.length + 2 < HA.length; omega
  · show H2.length < HA.length; omega
  · show H2.length + 1 < HA.length; omega
  · refine ⟨HB, hv', n, rpopL (x :: T), M, by rw [← hHB]; rfl, AB, ?_, q1, Keep.refl _ _, fun i hi => .inl hi, .inl ⟨rfl, rfl, fun i hi => hi⟩⟩
    exact q2
  · rintro M1 j j' m v hj hj8 hno hst - ⟨Hj, hvj, nj, Lj, Mj, rfl, Aj, Ij, gj, kj, fj, vj⟩
    generalize hdd : (8 : Int) - ((j' + 1 : Nat) : Int) = dd at *
    have nlj := Ij.nl
    have klj := Ij.kl
    have hY := spread_yield (kb := kb) hw hhb hB hrv hr f1 f2 t1 t2 (IntKind.wrap .i64 (Bd - 1)) al e g u H2.length x Aj (by omega) (by omega) (by omega) dd (x.1 + turnX dd) (x.2.1 + turnY dd)
    have hdir : isDir dd = true := by
      have h1 := steps_dir hst
      simp only [stepOk, Bool.and_eq_true] at h1
      exact h1.1.1
    have Im := Ij.more (j' := j) (Nat.le_refl _) (R' := fun y e => dK K' y = true ∧ (y ≠ (x.1, x.2.1) ∨ e < dd)) (fun y e hR => ⟨hR.1, fun hk => ⟨hR.1, by
      rcases hR.2 with h' | h'
      · exact .inl h'
      · by_cases hy : y = (x.1, x.2.1)
        · right
          subst hy
          by_cases he : e < 8 - (j : Int)
          · exact he
          · exfalso
            have hi := hno (7 - e).toNat (by omega) (by omega)
            rw [show (8 : Int) - (((7 - e).toNat + 1 : Nat) : Int) = e by omega] at hi
            rw [← hok] at hk
            simp only [okS, Bool.and_eq_true] at hk
            rw [hk.1.2] at hi
            cases hi
        · exact .inl hy⟩⟩)
    have hokd : ok (x.1, x.2.1) dd = hasB ax ay aw ah (x.1 + turnX dd) (x.2.1 + turnY dd) := by
      rw [← hok]
      simp only [okS, mvC, hin, hst, Bool.true_and]
    have hRn : ∀ y e, (dK K' y = true ∧ (y ≠ (x.1, x.2.1) ∨ e < 8 - (j' : Int))) → (dK K' y = true ∧ (y ≠ (x.1, x.2.1) ∨ e < dd)) ∨ (y = (x.1, x.2.1) ∧ e = dd) := fun y e hR => by
      by_cases hy : y = (x.1, x.2.1)
      · rcases hR.2 with h' | h'
        · exact absurd hy h'
        · by_cases he : e = dd
          · exact .inr ⟨hy, he⟩
          · exact .inl ⟨hR.1, .inr (by omega)⟩
      · exact .inl ⟨hR.1, .inl hy⟩
    by_cases hcond : hasB ax ay aw ah (x.1 + turnX dd) (x.2.1 + turnY dd) = true ∧ (gM Mj (x.1 + turnX dd, x.2.1 + turnY dd) = none ∨ ∃ w, gM Mj (x.1 + turnX dd, x.2.1 + turnY dd) = some w ∧ x.2.2.1 + costP dd < w)
    · obtain ⟨Hj', hvj', y1, y2, y3, y4⟩ := hY.2 hcond
      have kj' : Keep (kh :: kc :: slFp hv') HB Hj' := kj.trans' y3 (fun m hm hl => by
        rcases List.mem_cons.1 hm with h' | hm
        · simp [h']
        · rcases List.mem_cons.1 hm with h' | hm
          · simp [h']
          · rcases fj m hm with h' | h'
            · simp [h']
            · omega)
      refine ⟨_, _, true, y1, hAr y2 kj', .inr ⟨kh, rfl, ?_⟩, fun _ => ⟨Hj', hvj', _, _, _, rfl, y2, Im.relax hd q4 gj (by omega) (by rw [hokd]; exact hcond.1) hcond.2 hj hRn rfl rfl, ?_, kj', fun i hi => ?_, .inr ?_⟩, fun h => (by cases h)⟩
      · show kh < HA.length; omega
      · unfold gM
        rw [alGet_set, if_neg]
        · exact gj
        · intro hc
          have h1 := congrArg Prod.fst hc
          have h2 := congrArg Prod.snd hc
          dsimp only at h1 h2
          have : isDir dd = false := by
            unfold turnX at h1
            unfold turnY at h2
            unfold isDir
            simp only [Bool.and_eq_false_iff, decide_eq_false_iff_not]
            omega
          rw [hdir] at this
          cases this
      · rcases y4 i hi with h' | h'
        · exact fj i h'
        · have := kj.1; exact .inr (by omega)
      · rcases vj with ⟨rfl, _⟩ | rfl
        · rfl
        · simp [escMin]
    · refine ⟨_, none, true, hY.1 hcond, hAr Aj kj, .inl rfl, fun _ => ⟨Hj, hvj, nj, Lj, Mj, rfl, Aj, Im.relaxNo q4 gj (fun hk => ?_) (by omega) hRn, gj, kj, fj, ?_⟩, fun h => (by cases h)⟩
      · rw [hokd] at hk
        show ∃ w, gM Mj (x.1 + turnX dd, x.2.1 + turnY dd) = some w ∧ _
        cases hgm : gM Mj (x.1 + turnX dd, x.2.1 + turnY dd) with
        | none => exact absurd ⟨hk, .inl hgm⟩ hcond
        | some w => exact ⟨w, rfl, Int.not_lt.1 fun hlt => hcond ⟨hk, .inr ⟨w, hgm, hlt⟩⟩⟩
      · have : escMin v none = v := by cases v <;> rfl
        rw [this]
        exact vj
  · rintro M1 M' U - rfl hA' - (⟨j, hj8, hno, Hj, hvj, nj, Lj, Mj, rfl, Aj, Ij, gj, kj, fj, vj⟩ | ⟨_, _, h⟩)
    · have I0 := Ij.more (j' := 0) (Nat.zero_le _) (R' := fun y _ => dK K' y = true) (fun y e hR => ⟨hR, fun hk => ⟨hR, by
        by_cases hy : y = (x.1, x.2.1)
        · right
          subst hy
          have hdr := hd _ _ hk
          simp only [isDir, Bool.and_eq_true, decide_eq_true_eq] at hdr
          by_cases he : e < 8 - (j : Int)
          · exact he
          · exfalso
            have hi := hno (7 - e).toNat (by omega)
            rw [show (8 : Int) - (((7 - e).toNat + 1 : Nat) : Int) = e by omega] at hi
            rw [← hok] at hk
            simp only [okS, Bool.and_eq_true] at hk
            rw [hk.1.2] at hi
            cases hi
        · exact .inl hy⟩⟩)
      have hkbj : hget Hj kb 0 = some (.cells true [.ptr (.hp kh 0) 0]) := kj.get (kB.get (kA.get hkb2 (by simp)) (by simp)) (fun hc => by
        rcases List.mem_cons.1 hc with h' | hc
        · omega
        · rcases List.mem_cons.1 hc with h' | hc
          · omega
          · exact hkb1.2 _ (f1' _ hc) rfl)
      have kjl := kj.1
      simp (maxDischargeDepth := 8) only [go_sem, roM, spM, hw]
      rcases vj with ⟨rfl, hl, hfp⟩ | rfl
      · have hcg : ∀ i, i < H1.length → ((Hj.take HA.length).take H1.length)[i]? = Hj[i]? := fun i hi => by
          rw [List.take_take, List.getElem?_take, if_pos (by omega)]
        have hlen : ((Hj.take HA.length).take H1.length).length = H1.length := by
          rw [List.take_take, List.length_take]; omega
        refine ⟨spM X ks kh kb f1 f2 t1 t2 (IntKind.wrap .i64 (Bd - 1)) rv al false .ready none ((Hj.take HA.length).take H1.length) e, none, by rfl, _, hvj, nj, Lj, Mj, rfl, Aj.congr hB (fun i hi => hcg i ?_) (by have := kk1.1; omega), I0, q3, ?_, fun i hi => hkb1.2 i (f1' i (hfp i hi))⟩
        · have e1 := hget_lt c1
          rcases hi with h' | rfl | rfl | rfl | h'
          · have := kk1.1; omega
          · omega
          · omega
          · omega
          · have := fp1 i (hfp i h'); omega
        · rw [hget_congr (hcg kb (by omega))]; exact hkbj
      · rw [back_some (by show kh < H1.length; have := hget_lt c1; omega), show escOk HA.length (some kh) = false from escOk_some (by have := hget_lt c1; omega)]
        refine ⟨spM X ks kh kb f1 f2 t1 t2 (IntKind.wrap .i64 (Bd - 1)) rv al false .ready none Hj e, some kh, by rfl, Hj, hvj, nj, Lj, Mj, rfl, Aj, I0, q3, hkbj, fun i hi => ?_⟩
        rcases fj i hi with h' | h'
        · exact hkb1.2 i (f1' i h')
        · omega
    · exact h.elim
/-- What is left behind a round. -/
def RdPost (X : Mem) (H : Hp) (ks kh kc kd kb : Nat) (p : WP) (W : Wd) (cl sz ax ay aw ah : Int) (rv : SV) (h : Int → Int → Int) (f1 f2 t1 t2 : Int) (al : Bool) (e : Option Nat) (N : Nat) (B : Int) (T : List Rt) (M : List (Cl × Int)) (K : List (Cl × Bool)) (m' : Mem) (go : Bool) : Prop :=
  (go = true → ∃ Hr hv2 n2 L2 M2 K2, m' = spM X ks kh kb f1 f2 t1 t2 (IntKind.wrap .i64 (B - (K2.length : Int))) rv al false .ready none Hr e ∧ SpAt H ks kh kc kd (srC p cl sz ax ay aw ah (.map (.hp kc 0)) (.map (.hp kd 0))) Hr hv2 n2 L2 M2 K2 ∧
        SpI (okS W cl sz (fun c => hasB ax ay aw ah c.1 c.2)) (f1, f2) h N 0 n2 L2 M2 K2 (fun y _ => dK K2 y = true) ∧ hget Hr kb 0 = some (.cells true [.ptr (.hp kh 0) 0]) ∧ (∀ j ∈ slFp hv2, j ≠ kb) ∧ ((K2.length = K.length ∧ L2.length = T.length) ∨ K2.length = K.length + 1)) ∧
      (go = false → ∃ Hr hv2 n2 L2 res Bd2, m' = spM X ks kh kb f1 f2 t1 t2 Bd2 rv al res .done (some .ret) Hr e ∧ SpAt H ks kh kc kd (srC p cl sz ax ay aw ah (.map (.hp kc 0)) (.map (.hp kd 0))) Hr hv2 n2 L2 M K ∧
        ((res = true ∧ al = false ∧ ∃ best, gM M (t1, t2) = some best ∧ SFin (okS W cl sz (fun c => hasB ax ay aw ah c.1 c.2)) (f1, f2) (gM M) (dK K) (fun c => h c.1 c.2) (some best)) ∨ (res = false ∧ B < N)))
theorem wrap_pred {B : Int} {k : Int} (h1 : -9223372036854775808 ≤ B ∧ B ≤ 9223372036854775807) (h2 : 0 ≤ k ∧ k ≤ 1000000) : IntKind.wrap .i64 (IntKind.wrap .i64 (B - k) - 1) = IntKind.wrap .i64 (B - (k + 1)) := by
  simp only [IntKind.wrap, IntKind.bits, IntKind.signed]
  simp
  omega
theorem pth_in {W : Wd} {cl sz : Int} {inR : Cl → Bool} {s1 s2 : Int} (h0 : inR (s1, s2) = true ∧ W.stands cl sz s1 s2 = true) {c : Cl} {v : Int} (h : Pth (okS W cl sz inR) (s1, s2) c v) : inR c = true ∧ W.stands cl sz c.1 c.2 = true := by
  induction h with
  | nil => exact h0
  | step h hk ih =>
    simp only [okS, Bool.and_eq_true] at hk
    refine ⟨hk.2, ?_⟩
    have h2 := hk.1.2
    simp only [Wd.steps, Bool.and_eq_true] at h2
    exact h2.1.2
theorem spread_round {X : Mem} {H : Hp} {ks kh kc kd kb : Nat} {p : WP} {W : Wd} (hH : X.heap = H) (hW : WorldOwn H p W) (hg : W.Good) (hpk : ks ∉ p.fp) (hw : X.Wf) (hhb : X.hb ≤ ks) (hB : SpB H ks kh kc kd) {cl sz ax ay aw ah : Int} {rv : SV} (hrv : FnV X.dep rv) {h : Int → Int → Int}
    (hr : ∀ Y : Mem, Keep [ks] H Y.heap → Low Y X → Y.Wf → ∀ x y, RV tb rv [.agg [.int .i64 x, .int .i64 y]] Y = some (.int .i64 (h x y), Y)) (f1 f2 t1 t2 : Int) (al : Bool) (e : Option Nat) {N : Nat} (hN : N ≤ 20000) (hh : ∀ a b, 0 ≤ h a b ∧ h a b ≤ 1000000000) (hcs : ∀ c d, okS W cl sz (fun c => hasB ax ay aw ah c.1 c.2) c d = true → h c.1 c.2 ≤ costP d + h (mvC c d).1 (mvC c d).2)
    {Ha : Hp} {hv : SV} {n B Bd : Int} {x : Rt} {T : List Rt} {M : List (Cl × Int)} {K : List (Cl × Bool)} (A : SpAt H ks kh kc kd (srC p cl sz ax ay aw ah (.map (.hp kc 0)) (.map (.hp kd 0))) Ha hv n (x :: T) M K) (I : SpI (okS W cl sz (fun c => hasB ax ay aw ah c.1 c.2)) (f1, f2) h N 0 n (x :: T) M K (fun y _ => dK K y = true))
    (hkb : hget Ha kb 0 = some (.cells true [.ptr (.hp kh 0) 0])) (hkb1 : kd < kb ∧ ∀ j ∈ slFp hv, j ≠ kb) {hv' : SV} {H1 : Hp} (u : Option Nat) (o1 : RHeapOwn H1 kh hv' n (rpopL (x :: T))) (k1 : Keep (kh :: slFp hv) Ha H1) (f1' : ∀ j ∈ slFp hv', j ∈ slFp hv) (g : List SBk) (hBd : Bd = IntKind.wrap .i64 (B - (K.length : Int))) (hBr : -9223372036854775808 ≤ B ∧ B ≤ 9223372036854775807) (h0 : hasB ax ay aw ah f1 f2 = true ∧ W.stands cl sz f1 f2 = true) (hcnt : ∀ l : List Cl, l.Nodup → (∀ c ∈ l, hasB ax ay aw ah c.1 c.2 = true ∧ W.stands cl sz c.1 c.2 = true) → l.length ≤ N) :
    ∃ (m' : Mem) (d : Option Nat) (go : Bool), RV tb (.yld (.st X.dep 8)) [.agg [.int .i64 x.1, .int .i64 x.2.1, .int .i64 x.2.2.1, .int .i64 x.2.2.2.1]] (((((spM X ks kh kb f1 f2 t1 t2 Bd rv al false .ready none Ha e).hp H1).frs [] e).fr g u)) = some (.bool go, (m'.frs [] e).fr g (escMin u d)) ∧
      RdPost X H ks kh kc kd kb p W cl sz ax ay aw ah rv h f1 f2 t1 t2 al e N B T M K m' go := by
  have hBs := hB.s
  have hBh := hB.h
  have hBn := hB.n
  have nin : ∀ S : Nat, S ≠ kh → (∀ j ∈ slFp hv, j ≠ S) → S ∉ kh :: slFp hv := fun S h1 h2 hc => by
    rcases List.mem_cons.1 hc with h' | h'
    · exact h1 h'
    · exact h2 S h' rfl
  have s1 : hget H1 ks 0 = _ := k1.get A.s (nin _ (by omega) fun j hj => by have := (A.f j hj).1; omega)
  have d1 : hget H1 kd 0 = _ := k1.get A.d (nin _ (by omega) fun j hj => (A.f j hj).2.2)
  have c1 : hget H1 kc 0 = _ := k1.get A.c (nin _ (by omega) fun j hj => (A.f j hj).2.1)
  have kk1 : Keep [ks] H H1 := A.kk.trans' k1 (fun m hm hl => by
    rcases List.mem_cons.1 hm with h' | h'
    · omega
    · have := (A.f m h').1; omega)
  have hkb1' : hget H1 kb 0 = some (.cells true [.ptr (.hp kh 0) 0]) := k1.get hkb (nin _ (by omega) hkb1.2)
  have A1 : SpAt H ks kh kc kd (srC p cl sz ax ay aw ah (.map (.hp kc 0)) (.map (.hp kd 0))) H1 hv' n (rpopL (x :: T)) M K := ⟨o1, kk1, s1, c1, d1, fun j hj => A.f j (f1' j hj)⟩
  have hd : ∀ c d, okS W cl sz (fun c => hasB ax ay aw ah c.1 c.2) c d = true → isDir d = true := fun c d hk => by
    simp only [okS, Bool.and_eq_true] at hk
    have h1 := steps_dir hk.1.2
    simp only [stepOk, Bool.and_eq_true] at h1
    exact h1.1.1
  have hpi : ∀ c v, Pth (okS W cl sz (fun c => hasB ax ay aw ah c.1 c.2)) (f1, f2) c v → hasB ax ay aw ah c.1 c.2 = true ∧ W.stands cl sz c.1 c.2 = true := fun c v hp => pth_in (inR := fun c => hasB ax ay aw ah c.1 c.2) h0 hp
  have hxi : hasB ax ay aw ah x.1 x.2.1 = true ∧ W.stands cl sz x.1 x.2.1 = true := by
    obtain ⟨_, _, _, hp⟩ := I.iv.e _ _ (I.min hN hd hh).2.1
    exact hpi _ _ hp
  have hin := hxi.1
  have hcK : dK K (x.1, x.2.1) = false → K.length + 1 ≤ N := fun hdk => by
    have hno : (x.1, x.2.1) ∉ K.map Prod.fst := fun hm => by rw [(dK_iff I.kt).2 hm] at hdk; cases hdk
    have := hcnt ((x.1, x.2.1) :: K.map Prod.fst) (List.nodup_cons.2 ⟨hno, I.kn⟩) (fun c hc => by
      rcases List.mem_cons.1 hc with rfl | hc
      · exact hxi
      · obtain ⟨v, hv, _⟩ := I.iv.dm c ((dK_iff I.kt).2 hc)
        exact hpi _ _ (I.iv.p _ _ hv))
    simpa using this
  have b0 := I.kl
  have wB : IntKind.wrap .i64 (Bd - 1) = IntKind.wrap .i64 (B - ((K.length : Int) + 1)) := by rw [hBd]; exact wrap_pred (by omega) (by omega)
  have rest : dK K (x.1, x.2.1) = false → ∃ (m' : Mem) (d : Option Nat) (go : Bool), finR ((spM X ks kh kb f1 f2 t1 t2 Bd rv al false .ready none H1 e).fr g u) (.st X.dep 8)
      (KC tb [KI.kp [6, 8, 12, 13, 14], KI.seq ((SCode.kp [6, 8, 12, 13, 14] s_route_search_spread_p12).seq ((SCode.kp [6, 8, 12, 13, 14, 101] s_route_search_spread_p13).seq (SCode.block 2 (SCode.rangef (Opd.t 101) [102, 103] s_route_search_spread_p14 s_route_search_spread_p21)))), KI.block 1]
        (SV.bool (decide (IntKind.i64.wrap (Bd - 1) < 0))) ((SCode.region false [{ dst := none, op := SOp.store 1 [] (Opd.t 12) (Opd.v (SV.bool false)), guard := none, quiet := false }]).seq SCode.ret) SCode.skip
        [(84, SV.bool (decide (IntKind.i64.wrap (Bd - 1) < 0))), (83, SV.int IntKind.i64 (IntKind.i64.wrap (Bd - 1))), (82, SV.int IntKind.i64 (IntKind.i64.wrap (Bd - 1))), (81, SV.int IntKind.i64 Bd), (6, SV.ptr (Bk.st X.dep 0) 0), (8, SV.ptr (Bk.st X.dep 2) 0), (11, SV.ptr (Bk.st X.dep 5) 0), (12, SV.ptr (Bk.st X.dep 6) 0), (13, SV.ptr (Bk.st X.dep 7) 0), (14, SV.ptr (Bk.st (X.dep + 1 + 1) 0) 0)]
        (((spM X ks kh kb f1 f2 t1 t2 (IntKind.i64.wrap (Bd - 1)) rv al false .busy none H1 e).fr g u).fr [.cells true [.int .i64 x.1, .int .i64 x.2.1, .int .i64 x.2.2.1, .int .i64 x.2.2.2.1]] none)) = some (.bool go, (m'.frs [] e).fr g (escMin u d)) ∧
      RdPost X H ks kh kc kd kb p W cl sz ax ay aw ah rv h f1 f2 t1 t2 al e N B T M K m' go := by
    intro hdk
    cases hbd : decide (IntKind.i64.wrap (Bd - 1) < 0) with
    | true =>
      simp (maxDischargeDepth := 8) only [go_sem, spM, hw, hbd]
      refine ⟨spM X ks kh kb f1 f2 t1 t2 (IntKind.wrap .i64 (Bd - 1)) rv al false .done (some .ret) (H1.take H1.length) e, none, false, by rfl, fun h => (by cases h), fun _ => ⟨_, hv', n, rpopL (x :: T), false, _, rfl, ?_, .inr ⟨rfl, ?_⟩⟩⟩
      · rw [List.take_length]; exact A1
      · have := of_decide_eq_true hbd
        rw [wB] at this
        have h2 := hcK hdk
        rcases Int.lt_or_le B N with h' | h'
        · exact h'
        · rw [wrap_small (by omega) (by omega)] at this
          omega
    | false =>
      obtain ⟨m', d, e1, Hr, hv2, n2, L2, M2, e2, e3, e4, e5, e6, e7⟩ := spread_take hH hW hg hpk hw hhb hB hrv hr f1 f2 t1 t2 al e hN hh hcs A I hkb hkb1 u o1 k1 f1' g s1 d1 c1 kk1 hdk hbd hin (hcK hdk)
      rw [hbd] at e1
      refine ⟨m', d, true, e1, fun _ => ⟨Hr, hv2, n2, L2, M2, _, by rw [e2, e5, wB]; rfl, e3, e4, e6, e7, .inr e5⟩, fun h => (by cases h)⟩
  rw [RV_go (l := ⟨.ready, none, _, _, _, _⟩) _ _ _ (by simp (maxDischargeDepth := 8) only [go_sem, spM]; rfl) rfl rfl (by simp (maxDischargeDepth := 8) only [go_sem, spM, hw])]
  simp (maxDischargeDepth := 8) only [go_sem, spM, hw, s1, srC, d1, c1, assoc_cell, dk_getD]
  cases hdk : dK K (x.1, x.2.1) with
  | true =>
    simp (maxDischargeDepth := 8) only [go_sem, hw]
    refine ⟨spM X ks kh kb f1 f2 t1 t2 Bd rv al false .ready none H1 e, none, true, ?_, fun _ => ⟨H1, hv', n, rpopL (x :: T), M, K, by rw [hBd], A1, I.skip hdk, hkb1', fun j hj => hkb1.2 j (f1' j hj), .inl ⟨rfl, ?_⟩⟩, fun h => (by cases h)⟩
    · cases u <;> rfl
    · exact (rpop_perm x T).1.length_eq
  | false =>
    have rest := rest hdk
    simp (maxDischargeDepth := 8) only [go_sem, spM, hw, s1, srC, d1, c1, assoc_cell, dk_getD, gm_getD, gm_some]
    cases al with
    | true =>
      simp (maxDischargeDepth := 8) only [go_sem, hw]
      exact rest
    | false =>
      cases hgm : gM M (t1, t2) with
      | none =>
        simp (maxDischargeDepth := 8) only [go_sem, hw, Option.isSome_none]
        exact rest
      | some best =>
        cases hdt : dK K (t1, t2) with
        | false =>
          simp (maxDischargeDepth := 8) only [go_sem, hw, Option.isSome_some, s1, srC, d1, assoc_cell, dk_getD, hdt]
          exact rest
        | true =>
          simp (maxDischargeDepth := 8) only [go_sem, hw, Option.isSome_some, s1, srC, d1, assoc_cell, dk_getD, hdt]
          have hmin := I.min hN hd hh
          have hrx := I.re x List.mem_cons_self
          have b1 := hh x.1 x.2.1
          have b2 := I.kl
          have wx : IntKind.wrap .i64 (x.2.2.1 + x.2.2.2.1) = x.2.2.1 + x.2.2.2.1 := wrap_small (by omega) (by omega)
          cases hgt : decide (x.2.2.1 + x.2.2.2.1 > best) with
          | false =>
            simp (maxDischargeDepth := 8) only [go_sem, hw, wx, hgt, Option.getD_some]
            exact rest
          | true =>
            simp (maxDischargeDepth := 8) only [go_sem, hw, wx, hgt, Option.getD_some]
            refine ⟨spM X ks kh kb f1 f2 t1 t2 Bd rv false true .done (some .ret) (H1.take H1.length) e, none, false, by rfl, fun h => (by cases h), fun _ => ⟨_, hv', n, rpopL (x :: T), true, _, rfl, ?_, .inl ⟨rfl, rfl, best, hgm, ?_⟩⟩⟩
            · rw [List.take_length]; exact A1
            · have hg1 := of_decide_eq_true hgt
              refine I.iv.fin (fun y e h1 _ => h1) hcs fun y w hE => ⟨best, rfl, ?_⟩
              have := hmin.2.2 y w hE
              omega
theorem r_route_search_spread {X : Mem} {ks : Nat} {p : WP} {W : Wd} (hW : WorldOwn X.heap p W) (hg : W.Good) (hpk : ks ∉ p.fp) {cl sz ax ay aw ah : Int} {cv dv : SV} (hs : hget X.heap ks 0 = some (.cells true (srC p cl sz ax ay aw ah cv dv))) (hw : X.Wf) (hhb : X.hb ≤ ks) {rv : SV} (hrv : FnV X.dep rv) {h : Int → Int → Int}
    (hr : ∀ Y : Mem, Keep [ks] X.heap Y.heap → Low Y X → Y.Wf → ∀ x y, RV tb rv [.agg [.int .i64 x, .int .i64 y]] Y = some (.int .i64 (h x y), Y)) {f1 f2 : Int} (t1 t2 B : Int) (al : Bool) {N : Nat} (hN : N ≤ 20000) (hh : ∀ a b, 0 ≤ h a b ∧ h a b ≤ 1000000000) (hcs : ∀ c d, okS W cl sz (fun c => hasB ax ay aw ah c.1 c.2) c d = true → h c.1 c.2 ≤ costP d + h (mvC c d).1 (mvC c d).2)
    (hBr : -9223372036854775808 ≤ B ∧ B ≤ 9223372036854775807) (h0 : hasB ax ay aw ah f1 f2 = true ∧ W.stands cl sz f1 f2 = true) (hcnt : ∀ l : List Cl, l.Nodup → (∀ c ∈ l, hasB ax ay aw ah c.1 c.2 = true ∧ W.stands cl sz c.1 c.2 = true) → l.length ≤ N) :
    ∃ b H' u M K, RF tb f_route_search_spread [.ptr (.hp ks 0) 0, .agg [.int .i64 f1, .int .i64 f2], rv, .agg [.int .i64 t1, .int .i64 t2], .bool al, .int .i64 B] X = some (.bool b, (X.hp H').es (escMin X.esc u)) ∧ Keep [ks] X.heap H' ∧ (∃ kc kd, X.heap.length ≤ kc ∧ X.heap.length ≤ kd ∧ hget H' ks 0 = some (.cells true (srC p cl sz ax ay aw ah (.map (.hp kc 0)) (.map (.hp kd 0)))) ∧ hget H' kc 0 = some (.map (alV cellW intV M)) ∧ hget H' kd 0 = some (.map (alV cellW boolV K))) ∧ (∀ c v, gM M c = some v → v ≤ 14 * (N : Int)) ∧
      ((b = true ∧ ∃ Bo : Option Int, (∀ best, Bo = some best → al = false ∧ gM M (t1, t2) = some best) ∧ SFin (okS W cl sz (fun c => hasB ax ay aw ah c.1 c.2)) (f1, f2) (gM M) (dK K) (fun c => h c.1 c.2) Bo) ∨ (b = false ∧ B < N)) := by
  rw [RF_go t_route_search_spread _ _ rfl, push_hp]
  generalize hH : X.heap = H at *
  have hHl : X.hl = H.length := by rw [← hH]; rfl
  simp (maxDischargeDepth := 8) only [go_sem, s_route_search_spread, hw, hH, hrv.l, hrv.c, hrv.k, hrv.o, r_rheap_New]
  obtain ⟨H1, hH1⟩ : ∃ H1, H ++ [(0, SBk.cells true [.fn f_route_ahead [] [], .nils, .int .i64 0])] = H1 := ⟨_, rfl⟩
  have o1 : RHeapOwn H1 H.length .nils 0 [] := by rw [← hH1]; exact rheap_new H
  have k1 : Keep [] H H1 := by rw [← hH1]; exact Keep.app _ _ _
  have l1 : H1.length = H.length + 1 := by rw [← hH1, List.length_append]; rfl
  rw [hH1]
  have ksl := hget_lt hs
  have hs1 := k1.get hs (by simp)
  have hb1 : X.hb ≤ H1.length := by omega
  have sl : ∀ (a b : Nat × SBk), (H1 ++ [a]).set H1.length b = H1 ++ [b] := fun a b => by rw [List.set_append_right _ _ (Nat.le_refl _), Nat.sub_self]; rfl
  obtain ⟨H2, hH2⟩ : ∃ H2, H1 ++ [(0, SBk.map [(.agg [.int .i64 f1, .int .i64 f2], .int .i64 0)])] = H2 := ⟨_, rfl⟩
  have k2 : Keep [] H1 H2 := by rw [← hH2]; exact Keep.app _ _ _
  have l2 : H2.length = H1.length + 1 := by rw [← hH2, List.length_append]; rfl
  have hs2 := k2.get hs1 (by simp)
  have hs1' : hget (H1 ++ [(0, SBk.map [])]) ks 0 = some (.cells true (srC p cl sz ax ay aw ah cv dv)) := (show Keep [] H1 _ from Keep.app _ _ _).get hs1 (by simp)
  simp (maxDischargeDepth := 8) only [go_sem, hw, hb1, sl, hs2, hH2, hs1', hs1, hhb, srC, show ¬ (H1.length + 1 ≤ ks) by omega]
  obtain ⟨H3, hH3⟩ : ∃ H3, H2.set ks (0, SBk.cells true [.ptr (.hp p.k 0) 0, .int .i64 cl, .int .i64 sz, .int .i64 ax, .int .i64 ay, .int .i64 aw, .int .i64 ah, .map (.hp H1.length 0), dv]) = H3 := ⟨_, rfl⟩
  have ksl2 : ks < H2.length := by omega
  have k3 : Keep [ks] H2 H3 := by rw [← hH3]; exact Keep.set (by simp) _ _
  have l3 : H3.length = H2.length := by rw [← hH3, List.length_set]
  have hs3 : hget H3 ks 0 = some (.cells true (srC p cl sz ax ay aw ah (.map (.hp H1.length 0)) dv)) := by rw [← hH3, hget_set_eq ksl2, if_pos rfl]
  have hs3' : hget (H3 ++ [(0, SBk.map [])]) ks 0 = some (.cells true (srC p cl sz ax ay aw ah (.map (.hp H1.length 0)) dv)) := (show Keep [] H3 _ from Keep.app _ _ _).get hs3 (by simp)
  rw [hH3]
  simp (maxDischargeDepth := 8) only [go_sem, hw, hs3', hs3, hhb, srC, show ¬ (H3.length + 1 ≤ ks) by omega, show escMin (some ks) (some ks) = some ks from by simp [escMin]]
  obtain ⟨H4, hH4⟩ : ∃ H4, (H3 ++ [(0, SBk.map [])]).set ks (0, SBk.cells true [.ptr (.hp p.k 0) 0, .int .i64 cl, .int .i64 sz, .int .i64 ax, .int .i64 ay, .int .i64 aw, .int .i64 ah, .map (.hp H1.length 0), .map (.hp H3.length 0)]) = H4 := ⟨_, rfl⟩
  have k4 : Keep [ks] H3 H4 := by rw [← hH4]; exact (Keep.weak (T := [ks]) (show Keep [] H3 _ from Keep.app _ _ _) (by simp)).trans (Keep.set (by simp) _ _)
  have l4 : H4.length = H3.length + 1 := by rw [← hH4, List.length_set, List.length_append]; rfl
  have hs4 : hget H4 ks 0 = some (.cells true (srC p cl sz ax ay aw ah (.map (.hp H1.length 0)) (.map (.hp H3.length 0)))) := by rw [← hH4, hget_set_eq (by rw [List.length_append]; omega), if_pos rfl]
  have hc4 : hget H4 H1.length 0 = some (.map (alV cellW intV [((f1, f2), 0)])) := k4.get (k3.get (by rw [← hH2]; exact hget_new0 0 _) (by simp; omega)) (by simp; omega)
  have hd4 : hget H4 H3.length 0 = some (.map (alV cellW boolV [])) := by rw [← hH4, hget_set_ne (by omega)]; exact hget_new0 0 _
  have k04 : Keep [ks] H H4 := (((Keep.weak (T := [ks]) k1 (by simp)).trans (Keep.weak (T := [ks]) k2 (by simp))).trans k3).trans k4
  have o4 : RHeapOwn H4 H.length .nils 0 [] := ((o1.keep k2 (by simp) (by simp)).keep k3 (by simp; omega) (by simp [slFp])).keep k4 (by simp; omega) (by simp [slFp])
  rw [hH4, hr _ k04 (low_shut (low_fr (low_hp X _) _ _)) (by simp (maxDischargeDepth := 8) only [go_sem, hw])]
  simp (maxDischargeDepth := 8) only [go_sem, hw]
  generalize hz : RF tb f_heap_Heap_route_open_Push _ _ = z
  obtain ⟨hv, H5, u5, rfl, o5, k5, f5⟩ := rpush_of hz o4 (by simp) (by simp) (by show X.hb ≤ H.length; omega) (by simp [slFp]) (by simp (maxDischargeDepth := 8) only [go_sem, hw])
  change Keep _ H4 H5 at k5
  change ∀ j ∈ slFp hv, _ ∨ H4.length ≤ j at f5
  have l5 := k5.1
  have hB : SpB H ks H.length H1.length H3.length := ⟨ksl, rfl, ⟨by omega, by omega⟩⟩
  have hf5 : ∀ j ∈ slFp hv, H.length ≤ j ∧ j ≠ H1.length ∧ j ≠ H3.length := fun j hj => by
    rcases f5 j hj with h' | h'
    · simp [slFp] at h'
    · omega
  have A5 : SpAt H ks H.length H1.length H3.length (srC p cl sz ax ay aw ah (.map (.hp H1.length 0)) (.map (.hp H3.length 0))) H5 hv 1 (upH rlt 1 0 [(f1, f2, 0, h f1 f2, 0)]) [((f1, f2), 0)] [] := by
    refine ⟨o5, (k04.trans' k5 (fun m hm hl => ?_)), k5.get hs4 ?_, k5.get hc4 ?_, k5.get hd4 ?_, hf5⟩
    all_goals simp [slFp] at *; omega
  simp (maxDischargeDepth := 8) only [go_sem, hw, r_rheap_Drain]
  obtain ⟨HD, hHD⟩ : ∃ HD, H5 ++ [(0, SBk.cells true [.ptr (.hp H.length 0) 0])] = HD := ⟨_, rfl⟩
  have kD : Keep [] H5 HD := by rw [← hHD]; exact Keep.app _ _ _
  have lD : HD.length = H5.length + 1 := by rw [← hHD, List.length_append]; rfl
  have bD : hget HD H5.length 0 = some (.cells true [.ptr (.hp H.length 0) 0]) := by rw [← hHD]; exact hget_new0 0 _
  rw [hHD]
  have hdr := r_rheap_Drain_1 [] (escMin (some ks) u5) (D := X.dep) (i := 8) (kb := H5.length) (k := H.length) (α := Hp × SV × Int × List Rt × List (Cl × Int) × List (Cl × Bool)) (fun q => spM X ks H.length H5.length f1 f2 t1 t2 (IntKind.wrap .i64 (B - (q.2.2.2.2.2.length : Int))) rv al false .ready none q.1 (escMin (some ks) u5)) (fun q => q.2.1) (fun q => q.2.2.1) (fun q => q.2.2.2.1)
    (fun q _ => SpAt H ks H.length H1.length H3.length (srC p cl sz ax ay aw ah (.map (.hp H1.length 0)) (.map (.hp H3.length 0))) q.1 q.2.1 q.2.2.1 q.2.2.2.1 q.2.2.2.2.1 q.2.2.2.2.2 ∧ SpI (okS W cl sz (fun c => hasB ax ay aw ah c.1 c.2)) (f1, f2) h N 0 q.2.2.1 q.2.2.2.1 q.2.2.2.2.1 q.2.2.2.2.2 (fun y _ => dK q.2.2.2.2.2 y = true) ∧ hget q.1 H5.length 0 = some (.cells true [.ptr (.hp H.length 0) 0]) ∧ (∀ j ∈ slFp q.2.1, j ≠ H5.length)) (fun q => (N - q.2.2.2.2.2.length) * (8 * N + 3) + q.2.2.2.1.length)
    (fun m _ => ∃ (q : Hp × SV × Int × List Rt × List (Cl × Int) × List (Cl × Bool)) (st : LoopState) (pd : Option Jump) (res : Bool) (Bd : Int), m = spM X ks H.length H5.length f1 f2 t1 t2 Bd rv al res st pd q.1 (escMin (some ks) u5) ∧ SpAt H ks H.length H1.length H3.length (srC p cl sz ax ay aw ah (.map (.hp H1.length 0)) (.map (.hp H3.length 0))) q.1 q.2.1 q.2.2.1 q.2.2.2.1 q.2.2.2.2.1 q.2.2.2.2.2 ∧ (∀ c v, gM q.2.2.2.2.1 c = some v → v ≤ 14 * (N : Int)) ∧
      ((st = .ready ∧ pd = none ∧ SFin (okS W cl sz (fun c => hasB ax ay aw ah c.1 c.2)) (f1, f2) (gM q.2.2.2.2.1) (dK q.2.2.2.2.2) (fun c => h c.1 c.2) none) ∨ (st = .done ∧ pd = some .ret ∧ ((res = true ∧ al = false ∧ ∃ best, gM q.2.2.2.2.1 (t1, t2) = some best ∧ SFin (okS W cl sz (fun c => hasB ax ay aw ah c.1 c.2)) (f1, f2) (gM q.2.2.2.2.1) (dK q.2.2.2.2.2) (fun c => h c.1 c.2) (some best)) ∨ (res = false ∧ B < N)))))
    ?_ ?_ ?_ (HD, hv, 1, upH rlt 1 0 [(f1, f2, 0, h f1 f2, 0)], [((f1, f2), 0)], []) ⟨?_, spi_new _ _ _ _ _ (by simp [dK, alGet]), bD, fun j hj => ?_⟩
  · obtain ⟨m', u, hdr, ⟨Hd, wv, nd, Ld, Md, Kd⟩, st, pd, res, Bd, rfl, Ad, hmb, hst⟩ := hdr
    dsimp only at Ad hmb hst
    simp only [spM, frs_nil_fr] at hdr
    simp only [List.length_nil, Int.ofNat_zero, Int.sub_zero, wrap_small hBr.1 hBr.2] at hdr
    rw [hdr]
    clear hdr
    obtain ⟨e9, he9, hk9⟩ : ∃ e9, escMin (escMin (some ks) u5) u = some e9 ∧ e9 ≤ ks := by
      cases u5 <;> cases u <;> simp only [escMin] <;> exact ⟨_, rfl, by omega⟩
    obtain ⟨Hf, hHf⟩ : ∃ Hf, (if escOk HD.length u = true then Hd.take HD.length else Hd) = Hf := ⟨_, rfl⟩
    have hdl := Ad.kk.1
    have hcg : ∀ i, i < HD.length → Hf[i]? = Hd[i]? := fun i hi => by
      rw [← hHf]
      split
      · rw [List.getElem?_take, if_pos hi]
      · rfl
    have hHl2 : H.length ≤ Hf.length := by
      rw [← hHf]
      split
      · rw [List.length_take]; omega
      · omega
    have fin9 : Keep [ks] H Hf ∧ (∃ kc kd, H.length ≤ kc ∧ H.length ≤ kd ∧ hget Hf ks 0 = some (.cells true (srC p cl sz ax ay aw ah (.map (.hp kc 0)) (.map (.hp kd 0)))) ∧ hget Hf kc 0 = some (.map (alV cellW intV Md)) ∧ hget Hf kd 0 = some (.map (alV cellW boolV Kd))) :=
      ⟨⟨hHl2, fun i hi hn => by rw [hcg i (by omega), Ad.kk.2 i hi hn]⟩, H1.length, H3.length, by omega, by omega, by rw [hget_congr (hcg ks (by omega))]; exact Ad.s, by rw [hget_congr (hcg _ (by omega))]; exact Ad.c, by rw [hget_congr (hcg _ (by omega))]; exact Ad.d⟩
    have hf9 : escOk X.hl (some e9) = false := escOk_some (by omega)
    rcases hst with ⟨rfl, rfl, hS⟩ | ⟨rfl, rfl, hS⟩
    · simp (maxDischargeDepth := 8) only [go_sem, hw, he9, hHf]
      rw [hf9]
      exact ⟨_, Hf, some e9, Md, Kd, rfl, fin9.1, fin9.2, hmb, .inl ⟨rfl, none, fun _ h => (by cases h), hS⟩⟩
    · simp (maxDischargeDepth := 8) only [go_sem, hw, he9, hHf]
      rw [hf9]
      refine ⟨_, Hf, some e9, Md, Kd, rfl, fin9.1, fin9.2, hmb, ?_⟩
      rcases hS with ⟨r1, r2, best, r3, r4⟩ | ⟨r1, r2⟩
      · exact .inl ⟨r1, some best, fun b hb => by cases hb; exact ⟨r2, r3⟩, r4⟩
      · exact .inr ⟨r1, r2⟩
  · rintro ⟨Hd, wv, nd, Ld, Md, Kd⟩ u ⟨Ad, Id, bd, fd⟩
    dsimp only at Ad Id bd fd ⊢
    have := Id.nl
    have := Id.kl
    refine ⟨?_, fr_wf (hp_wf hw) _ _, ?_, fun j hj => ?_, bd, Ad.o, by omega⟩
    · show X.dep < ((X.hp Hd).fr _ _).dep; rw [fr_dep]; exact Nat.lt_succ_self _
    · show X.hb ≤ H.length; omega
    · have := (Ad.f j hj).1; show X.hb ≤ j; omega
  · rintro ⟨Hd, wv, nd, Ld, Md, Kd⟩ u ⟨Ad, Id, bd, fd⟩ hL
    dsimp only at Ad Id bd fd hL ⊢
    subst hL
    refine ⟨(Hd, wv, nd, [], Md, Kd), _, _, _, _, rfl, Ad, fun c v h => Int.le_trans (Id.mb c v h) (by have := Id.kl; omega), .inl ⟨rfl, rfl, ?_⟩⟩
    refine Id.iv.fin (fun y e h1 _ => h1) hcs fun y w hE => ?_
    obtain ⟨_, hE⟩ := hE
    cases hE
  · rintro ⟨Hd, wv, nd, Ld, Md, Kd⟩ u x T ⟨Ad, Id, bd, fd⟩ hL hv' H1' u1 hO k1' f1' g
    dsimp only at Ad Id bd fd hL k1' f1' ⊢
    subst hL
    change Keep _ Hd H1' at k1'
    obtain ⟨m', d, go, e1, P1, P2⟩ := spread_round (kb := H5.length) (B := B) (T := T) hH hW hg hpk hw hhb hB hrv hr f1 f2 t1 t2 al (escMin (some ks) u5) hN hh hcs Ad Id bd ⟨by omega, fd⟩ (escMin u u1) hO k1' f1' g rfl hBr h0 hcnt
    refine ⟨m', d, go, e1, fun hgo => ?_, fun hgo => ?_⟩
    · obtain ⟨Hr, hv2, n2, L2, res, Bd2, r1, r2, r3⟩ := P2 hgo
      exact ⟨(Hr, hv2, n2, L2, Md, Kd), _, _, res, Bd2, r1, r2, fun c v h => Int.le_trans (Id.mb c v h) (by have := Id.kl; dsimp only at *; omega), .inr ⟨rfl, rfl, r3⟩⟩
    · obtain ⟨Hr, hv2, n2, L2, M2, K2, r1, r2, r3, r4, r5, r6⟩ := P1 hgo
      refine ⟨(Hr, hv2, n2, L2, M2, K2), r1, ⟨r2, r3, r4, r5⟩, ?_⟩
      dsimp only
      have c1 := r3.nl
      have c2 := r3.kl
      have c3 := Id.kl
      rcases r6 with ⟨g1, g2⟩ | g1
      · rw [g1, g2, List.length_cons]; omega
      · obtain ⟨q, hq⟩ : ∃ q, N - K2.length = q := ⟨_, rfl⟩
        rw [hq, show N - Kd.length = q + 1 by omega, Nat.add_mul, Nat.one_mul, List.length_cons]
        omega
  · exact ⟨A5.o.keep kD (by simp) (by simp), A5.kk.trans' kD (by simp), kD.get A5.s (by simp), kD.get A5.c (by simp), kD.get A5.d (by simp), A5.f⟩
  · have := A5.o.ow.fp j hj
    omega
end Go.Sh.T
