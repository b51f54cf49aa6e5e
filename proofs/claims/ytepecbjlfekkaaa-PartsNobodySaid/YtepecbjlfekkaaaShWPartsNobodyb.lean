import Derived.Test.YtepecbjlfekkaaaShWPartsNobodya
import Derived.Test.YtepecbjlfekkaaaShArg
set_option linter.all false
set_option linter.unusedVariables false
set_option linter.unusedSimpArgs false
set_option autoImplicit false
namespace Go.Sh.T
open Go.Sh
set_option maxHeartbeats 8000000
set_option maxRecDepth 20000
abbrev la2 (X : Mem) (k : Nat) (uv : SV) (kM d0 : Nat) (lb : SBk) (st : LoopState) (H : Hp) (e : Option Nat) : Mem :=
  (X.hp H).fr [.cells true [.ptr (.hp k 0) 0], .cells true [uv], lb, .cells true [.map (.hp kM 0)],
    .loop ⟨st, none, [(1, .ptr (.st X.dep 0) 0), (3, .ptr (.st X.dep 1) 0), (7, .ptr (.st X.dep 3) 0), (110, .fn f_cell_Cells_1 [] [.ptr (.hp d0 0) 0])], [111], s_parts_Parts_label_p18, s_parts_Parts_label_p28⟩] e
/-- What does not turn while the cells are numbered. -/
structure LFix (X : Mem) (k kM kf : Nat) (uv lv flv : SV) (B0 : Nat) : Prop where
  kB : k < kM ∧ kM < B0 ∧ kf < B0 ∧ kf ≠ k ∧ kf ≠ kM
  uB : ∀ j ∈ slFp uv, j < B0 ∧ j ≠ k ∧ j ≠ kM ∧ j ≠ kf ∧ j ∉ slFp flv ∧ j ∉ slFp lv ∧ X.hb ≤ j
  lB : ∀ j ∈ slFp lv, j < B0 ∧ j ≠ k ∧ j ≠ kM ∧ j ≠ kf ∧ j ∉ slFp flv ∧ X.hb ≤ j
  fB : ∀ j ∈ slFp flv, j < B0 ∧ j ≠ k ∧ j ≠ kM
  hb : X.hb ≤ k
structure LAt (X : Mem) (k kM kf : Nat) (p : WP) (W : Wd) (cl sz : Int) (uv lv flv : SV) (fep : Int) (B0 : Nat) (H : Hp) (up L : List Nat) (F : List (Int × Int)) (Z : List Nat) (M : List (Int × Int)) (fv zv : SV) (ep : Int) : Prop where
  P : hget H k 0 = some (.cells true (paC p W cl sz kf lv fv zv ep))
  D : FieldAt (Hm H) kf p W cl flv fep (W.clrs cl)
  u : Own natF H uv up
  l : Own natF H lv L
  f : Own cellF H fv F
  z : Own natF H zv Z
  m : hget H kM 0 = some (.map (alV intV intV M))
  ff : ∀ j ∈ slFp fv, B0 ≤ j
  zf : ∀ j ∈ slFp zv, B0 ≤ j ∧ j ∉ slFp fv
  hl : B0 ≤ H.length
theorem LAt.field {H H' : Hp} {S : List Nat} {kf : Nat} {p : WP} {W : Wd} {cl : Int} {flv : SV} {fep : Int} (h : FieldAt (Hm H) kf p W cl flv fep (W.clrs cl)) (k : Keep S H H') (h1 : kf ∉ S) (h2 : ∀ j ∈ slFp flv, j ∉ S) : FieldAt (Hm H') kf p W cl flv fep (W.clrs cl) :=
  ⟨k.get (show hget H kf 0 = _ from h.hd) h1, h.ll.keep k h2, h.len, h.w1, h.h1⟩
/-- The map knows the numbers. -/
def MNum (M : List (Int × Int)) (num : Nat → Nat) : Prop := ∀ r : Nat, alGet (r : Int) M = if num r = 0 then none else some (num r : Int)
theorem MNum.set {M : List (Int × Int)} {num : Nat → Nat} (h : MNum M num) (r v : Nat) (hv : v ≠ 0) : MNum (alSet (r : Int) (v : Int) M) (fun q => if q = r then v else num q) := by
  intro q
  rw [alGet_set]
  by_cases e : q = r
  · subst e
    simp only [if_true]
    rw [if_neg hv]
  · simp only [if_neg e]
    rw [if_neg (by omega)]; exact h q
theorem own_fp7 {α : Type} {d : Fl α} {H : Hp} {v : SV} {l : List α} (h : Own d H v l) (hl : l ≠ []) : ∃ j, j ∈ slFp v := by
  rcases h with ⟨_, rfl⟩ | ⟨_, rfl⟩ | ⟨n, w, off, cap, c, rfl, _⟩
  · exact absurd rfl hl
  · exact absurd rfl hl
  · exact ⟨n, by simp [slFp]⟩
theorem aw_of {α : Type} {d : Fl α} {H : Hp} {v : SV} {l : List α} (h : Own d H v l) {aw : Bk → Bool} (ha : ∀ j ∈ slFp v, ∀ w, aw (.hp j w) = true) : awF v aw = true := by
  rcases h with ⟨rfl, _⟩ | ⟨rfl, _⟩ | ⟨n, w, off, cap, c, rfl, _⟩
  · rfl
  · rfl
  · exact ha n (by simp [slFp]) w
theorem hxs_nat (l : List Nat) : SV.hxs (l.flatMap natF.enc) = 0 := by induction l with | nil => rfl | cons a l ih => simp only [List.flatMap_cons]; exact ih
theorem natF_ok (l : List Nat) : SV.cellsOk 0 0 (l.flatMap natF.enc) = true := cellsOk_flat (fun _ => rfl) l
theorem label2_yield {X : Mem} (hw : X.Wf) {k kM kf d0 : Nat} {p : WP} {W : Wd} {cl sz : Int} {uv lv flv fv zv : SV} {fep ep : Int} {B0 : Nat} {lb : SBk} {Hk : Hp} {e0 : Option Nat} {n : Nat} {up L : List Nat} {F : List (Int × Int)} {Z : List Nat} {M : List (Int × Int)} {rt dp num : Nat → Nat}
    (hX : LFix X k kM kf uv lv flv B0) (A : LAt X k kM kf p W cl sz uv lv flv fep B0 Hk up L F Z M fv zv ep) (hs : 1 ≤ sz ∧ sz ≤ 4) (hW : Well up rt dp) (hlen : up.length = n) (hn : n ≤ 16384) (hnw : n = W.w.toNat * W.h.toNat) {c : Nat} (hc : c < n)
    (hB : Lab n (stI W cl sz) rt (fun i => (((i % W.w.toNat : Nat) : Int), ((i / W.w.toNat : Nat) : Int))) c L F Z num) (hM : MNum M num) :
    ∃ H' up' L' F' Z' M' num' fv' zv' u, Yields tb (.st X.dep 4) [cellV ((c % W.w.toNat : Nat) : Int) ((c / W.w.toNat : Nat) : Int)] (la2 X k uv kM d0 lb .ready Hk e0) (la2 X k uv kM d0 lb .ready H' e0) u true ∧
      LAt X k kM kf p W cl sz uv lv flv fep B0 H' up' L' F' Z' M' fv' zv' ep ∧ Well up' rt dp ∧ up'.length = n ∧ Lab n (stI W cl sz) rt (fun i => (((i % W.w.toNat : Nat) : Int), ((i / W.w.toNat : Nat) : Int))) (c + 1) L' F' Z' num' ∧ MNum M' num' ∧ Keep (k :: kM :: (slFp uv ++ slFp lv ++ slFp fv ++ slFp zv)) Hk H' ∧ ((u = none ∧ H'.length = Hk.length) ∨ u = some k) := by
  have w1 := A.D.w1
  have w2 := A.D.h1
  have hwp : 0 < W.w.toNat := by omega
  have e1 := Nat.div_add_mod c W.w.toNat
  have e2 := Nat.mod_lt c hwp
  have e3 : c / W.w.toNat < W.h.toNat := by rw [Nat.div_lt_iff_lt_mul hwp, Nat.mul_comm]; omega
  have hself : stI W cl sz c = W.stands cl sz ((c % W.w.toNat : Nat) : Int) ((c / W.w.toNat : Nat) : Int) := rfl
  have so := A.u.isSl natF_even
  have hst := fun {Y : Mem} (hY : HpSub (Hm Hk) Y) (hwY : Y.Wf) (x y : Int) => r_parts_stands (cl := cl) (sz := sz) (show (Hm Hk).get (.hp k 0) = _ from A.P) A.D hs hY hwY x y
  have hmul : ((c / W.w.toNat : Nat) : Int) * W.w = ((c / W.w.toNat * W.w.toNat : Nat) : Int) := by rw [Int.natCast_mul, Int.toNat_of_nonneg (show 0 ≤ W.w by omega)]
  have hmb : c / W.w.toNat * W.w.toNat + c % W.w.toNat = c := by rw [Nat.mul_comm]; exact e1
  have wb : IntKind.wrap .i64 (((c / W.w.toNat : Nat) : Int) * W.w) = ((c / W.w.toNat * W.w.toNat : Nat) : Int) := by rw [hmul, wrap_small (by omega) (by omega)]
  have wi : IntKind.wrap .i64 (((c / W.w.toNat * W.w.toNat : Nat) : Int) + ((c % W.w.toNat : Nat) : Int)) = (c : Int) := by rw [wrap_small (by omega) (by omega)]; omega
  have hP := A.P
  generalize ha : ((c % W.w.toNat : Nat) : Int) = a at *
  generalize hb : ((c / W.w.toNat : Nat) : Int) = b at *
  cases h0 : W.stands cl sz a b with
  | false =>
    refine ⟨Hk, up, L, F, Z, M, num, fv, zv, none, ?_, A, hW, hlen, hB.no (hself.trans h0), hM, Keep.refl _ _, .inl ⟨rfl, rfl⟩⟩
    intro fs e
    rw [RV_go (l := ⟨.ready, none, _, _, _, _⟩) _ _ _ (by simp (maxDischargeDepth := 8) only [go_sem, la2]; rfl) rfl rfl (by simp (maxDischargeDepth := 8) only [go_sem, la2, hw])]
    simp (maxDischargeDepth := 8) only [go_sem, la2, hw, so.l, hst, h0, hP, paC, wb, wi]
  | true =>
    obtain ⟨H1, up1, r1, o1, W1, l1, k1, n1⟩ := r_parts_rootU A.u hW X.hb (fun j hj => (hX.uB j hj).2.2.2.2.2.2) (i := c) (by omega)
    have nku : k ∉ slFp uv := fun h => (hX.uB k h).2.1 rfl
    have nmu : kM ∉ slFp uv := fun h => (hX.uB kM h).2.2.1 rfl
    have nfu : kf ∉ slFp uv := fun h => (hX.uB kf h).2.2.2.1 rfl
    have hP1 := k1.get hP nku
    have hM1 := k1.get A.m nmu
    have D1 := LAt.field A.D k1 nfu (fun j hj hc => (hX.uB j hc).2.2.2.2.1 hj)
    have ol1 : Own natF H1 lv L := A.l.keep k1 (fun j hj hc => (hX.uB j hc).2.2.2.2.2.1 hj)
    have of1 : Own cellF H1 fv F := A.f.keep k1 (fun j hj hc => by have := A.ff j hj; have := (hX.uB j hc).1; omega)
    have oz1 : Own natF H1 zv Z := A.z.keep k1 (fun j hj hc => by have := (A.zf j hj).1; have := (hX.uB j hc).1; omega)
    have hkl1 := hget_lt hP1
    have hhb := hX.hb
    have hxk := hX.kB
    have hbm : X.hb ≤ kM := by omega
    have hLl := hB.len
    have hZl : Z.length = F.length := by rw [hB.zs, List.length_map, List.length_range]
    have hFn : F.length ≤ c := by
      have key : ∀ j, mxP (fun i => L.getD i 0) j ≤ j → True := fun _ _ => trivial
      rw [hB.mx]
      clear key
      have : (fsP (fun i => L.getD i 0) c).length ≤ c := by
        have : ∀ j, (fsP (fun i => L.getD i 0) j).length ≤ j := fun j => by
          induction j with
          | zero => exact Nat.le_refl _
          | succ j ih =>
            simp only [fsP]
            split
            · rw [List.length_append, List.length_singleton]; omega
            · omega
        exact this c
      rw [← hB.mx, hB.fs, List.length_map]; exact this
    have hyes := hB.yes hc (hself.trans h0)
    have sl := A.l.isSl natF_even
    have sz1 := A.z.isSl natF_even
    have sf := A.f.isSl cellF_even
    by_cases hnum : num (rt c) = 0
    · simp only [hnum, if_true, true_and] at hyes
      have hz0 : (Z ++ [0]).getD F.length 0 = 0 := by rw [List.getD_eq_getElem?_getD, List.getElem?_append_right (by omega)]; simp [hZl]
      rw [show F.length + 1 - 1 = F.length from rfl, hz0, Nat.zero_add, ha, hb] at hyes
      have hA : assoc (.int .i64 (rt c : Int)) (alV intV intV M) = some none := by
        rw [assoc_int, hM, hnum, if_pos rfl]; rfl
      obtain ⟨Ha, hHa⟩ : ∃ Ha, H1 ++ [(0, SBk.cells true [.int .i64 a, .int .i64 b])] = Ha := ⟨_, rfl⟩
      have ka : Keep [] H1 Ha := by rw [← hHa]; exact Keep.app _ _ _
      have la : Ha.length = H1.length + 1 := by rw [← hHa, List.length_append]; rfl
      have ya : LiesD cellF (Hm Ha) (.sl (.hp H1.length 0) 0 1 (some 1) 2) [(a, b)] := by rw [← hHa]; exact (own_new cellF_even H1 [(a, b)] (some 1)).lies cellF_even
      obtain ⟨fv', H2, ap1, of2, k2, f2, ⟨c21, c22, c23⟩, n2⟩ := app_ownY cellF_even (by decide) cellF_ok hxs_cell (of1.keep ka (by simp)) ya (bytes := 16) (by simp only [List.length_singleton, two48]; omega) (by simp only [List.length_singleton, two48]; omega) X (fun j hj => by have := A.ff j hj; omega)
      have hB0 := A.hl
      have hP2 := k2.get (ka.get hP1 (by simp)) (fun h => by have := A.ff k h; omega)
      have hM2 := k2.get (ka.get hM1 (by simp)) (fun h => by have := A.ff kM h; omega)
      obtain ⟨Hb, hHb⟩ : ∃ Hb, H2 ++ [(0, SBk.cells true [.int .i64 0])] = Hb := ⟨_, rfl⟩
      have kb : Keep [] H2 Hb := by rw [← hHb]; exact Keep.app _ _ _
      have lb' : Hb.length = H2.length + 1 := by rw [← hHb, List.length_append]; rfl
      have yb : LiesD natF (Hm Hb) (.sl (.hp H2.length 0) 0 1 (some 1) 1) [0] := by rw [← hHb]; exact (own_new natF_even H2 [0] (some 1)).lies natF_even
      have oz2 : Own natF H2 zv Z := (oz1.keep ka (by simp)).keep k2 (fun j hj hc => (A.zf j hj).2 hc)
      obtain ⟨zv', H3, ap2, oz3, k3, f3, ⟨c31, c32, c33⟩, n3⟩ := app_ownY natF_even (by decide) natF_ok hxs_nat (oz2.keep kb (by simp)) yb (bytes := 8) (by simp only [List.length_singleton, two48]; omega) (by simp only [List.length_singleton, two48]; omega) X (fun j hj => by have := (A.zf j hj).1; omega)
      have q2 := k2.1
      have q3 := k3.1
      have sfv' := of2.isSl cellF_even
      have szv' := oz3.isSl natF_even
      have ff2 : ∀ j ∈ slFp fv', B0 ≤ j := fun j hj => by
        rcases f2 j hj with h | h
        · exact A.ff j h
        · omega
      have zf3 : ∀ j ∈ slFp zv', B0 ≤ j ∧ j ∉ slFp fv' := fun j hj => by
        rcases f3 j hj with h | h
        · refine ⟨(A.zf j h).1, fun hc => ?_⟩
          rcases f2 j hc with h2 | h2
          · exact (A.zf j h).2 h2
          · have := (A.z.fp j h); omega
        · refine ⟨by omega, fun hc => ?_⟩
          have := of2.fp j hc
          omega
      have ap1' : ∀ (aw : Bk → Bool) (Y : Mem), awF fv aw = true → Y.heap = Ha → Y.hb = X.hb → appV 2 16 [.int .i64 0, .int .i64 0] aw fv (.sl (.hp H1.length 0) 0 1 (some 1) 2) Y = some (fv', Y.hp H2) := fun aw Y h1 h2 h3 => ap1 [.int .i64 0, .int .i64 0] rfl aw h1 Y h2 h3
      have ap2' : ∀ (aw : Bk → Bool) (Y : Mem), awF zv aw = true → Y.heap = Hb → Y.hb = X.hb → appV 1 8 [.int .i64 0] aw zv (.sl (.hp H2.length 0) 0 1 (some 1) 1) Y = some (zv', Y.hp H3) := fun aw Y h1 h2 h3 => ap2 [.int .i64 0] rfl aw h1 Y h2 h3
      have hP3 := k3.get (kb.get hP2 (by simp)) (fun h => by have := (A.zf k h).1; omega)
      have hk3 := hget_lt hP3
      obtain ⟨H4, hH4⟩ : ∃ H4, H3.set k (0, .cells true (paC p W cl sz kf lv fv' zv ep)) = H4 := ⟨_, rfl⟩
      have hP4 : hget H4 k 0 = some (.cells true (paC p W cl sz kf lv fv' zv ep)) := by rw [← hH4, hget_set_eq hk3, if_pos rfl]
      have k4 : Keep [k] H3 H4 := by rw [← hH4]; exact Keep.set (by simp) _ _
      have n4 : H4.length = H3.length := by rw [← hH4, List.length_set]
      obtain ⟨H5, hH5⟩ : ∃ H5, H4.set k (0, .cells true (paC p W cl sz kf lv fv' zv' ep)) = H5 := ⟨_, rfl⟩
      have hP5 : hget H5 k 0 = some (.cells true (paC p W cl sz kf lv fv' zv' ep)) := by rw [← hH5, hget_set_eq (by omega), if_pos rfl]
      have k5 : Keep [k] H4 H5 := by rw [← hH5]; exact Keep.set (by simp) _ _
      have n5 : H5.length = H4.length := by rw [← hH5, List.length_set]
      have hH4' : H3.set k (0, SBk.cells true [SV.ptr (.hp p.k 0) 0, .int .i64 cl, .int .i64 sz, .int .i64 0, .int .i64 0, .int .i64 W.w, .int .i64 W.h, .ptr (.hp kf 0) 0, lv, fv', zv, .int .i64 ep]) = H4 := hH4
      have hH5' : H4.set k (0, SBk.cells true [SV.ptr (.hp p.k 0) 0, .int .i64 cl, .int .i64 sz, .int .i64 0, .int .i64 0, .int .i64 W.w, .int .i64 W.h, .ptr (.hp kf 0) 0, lv, fv', zv', .int .i64 ep]) = H5 := hH5
      have hfx : (fv'.hx ≤ k) = False := by
        obtain ⟨j, hj⟩ := own_fp7 of2 (by simp)
        have := hx_fp hj; have := ff2 j hj
        exact eq_false (by omega)
      have hzx : (zv'.hx ≤ k) = False := by
        obtain ⟨j, hj⟩ := own_fp7 oz3 (by simp)
        have := hx_fp hj; have := (zf3 j hj).1
        exact eq_false (by omega)
      have hM5 := k5.get (k4.get (k3.get (kb.get hM2 (by simp)) (fun h => by have := (A.zf kM h).1; omega)) (by simp; omega)) (by simp; omega)
      have hm5 := hget_lt hM5
      have of5 : Own cellF H5 fv' (F ++ [(a, b)]) := (((of2.keep kb (by simp)).keep k3 (fun j hj hc => by
        rcases f2 j hj with h | h
        · exact (A.zf j hc).2 h
        · have := A.z.fp j hc; omega)).keep k4 (fun j hj hc => by simp at hc; have := ff2 j hj; omega)).keep k5 (fun j hj hc => by simp at hc; have := ff2 j hj; omega)
      have oz5 : Own natF H5 zv' (Z ++ [0]) := (oz3.keep k4 (fun j hj hc => by simp at hc; have := (zf3 j hj).1; omega)).keep k5 (fun j hj hc => by simp at hc; have := (zf3 j hj).1; omega)
      have kA5 : Keep (k :: (slFp fv ++ slFp zv)) H1 H5 := ((((ka.weak (by simp)).trans' k2 (fun m hm hl => by simp [hm])).trans' kb (by simp)).trans' k3 (fun m hm hl => by simp [hm])).trans' k4 (by simp) |>.trans' k5 (by simp)
      have hdis : ∀ j, j < B0 → j ≠ k → j ∉ k :: (slFp fv ++ slFp zv) := fun j h1 h2 hc => by
        rcases List.mem_cons.1 hc with h | h
        · exact h2 h
        · rcases List.mem_append.1 h with h | h
          · have := A.ff j h; omega
          · have := (A.zf j h).1; omega
      have ol5 : Own natF H5 lv L := ol1.keep kA5 (fun j hj => hdis j (hX.lB j hj).1 (hX.lB j hj).2.1)
      have ou5 : Own natF H5 uv up1 := o1.keep kA5 (fun j hj => hdis j (hX.uB j hj).1 (hX.uB j hj).2.1)
      have D5 := LAt.field D1 kA5 (hdis kf (by omega) (by omega)) (fun j hj => hdis j (hX.fB j hj).1 (hX.fB j hj).2.1)
      -- the map
      have eset : assocSet (.int .i64 (rt c : Int)) (.int .i64 ((F.length + 1 : Nat) : Int)) (alV intV intV M) = alV intV intV (alSet (rt c : Int) ((F.length + 1 : Nat) : Int) M) := set_al seq_int _ _ _
      obtain ⟨H6, hH6⟩ : ∃ H6, H5.set kM (0, SBk.map (alV intV intV (alSet (rt c : Int) ((F.length + 1 : Nat) : Int) M))) = H6 := ⟨_, rfl⟩
      have k6 : Keep [kM] H5 H6 := by rw [← hH6]; exact Keep.set (by simp) _ _
      have n6 : H6.length = H5.length := by rw [← hH6, List.length_set]
      have hM6 : hget H6 kM 0 = some (.map (alV intV intV (alSet (rt c : Int) ((F.length + 1 : Nat) : Int) M))) := by rw [← hH6, hget_set_eq hm5, if_pos rfl]
      have hP6 := k6.get hP5 (by simp; omega)
      have hA6 : assoc (.int .i64 (rt c : Int)) (alV intV intV (alSet (rt c : Int) ((F.length + 1 : Nat) : Int) M)) = some (some (.int .i64 ((F.length + 1 : Nat) : Int))) := by
        rw [assoc_int, alGet_set, if_pos rfl]; rfl
      have ol6 : Own natF H6 lv L := ol5.keep k6 (fun j hj hc => by simp at hc; exact (hX.lB j hj).2.2.1 hc)
      have oz6 : Own natF H6 zv' (Z ++ [0]) := oz5.keep k6 (fun j hj hc => by simp at hc; have := (zf3 j hj).1; omega)
      have of6 : Own cellF H6 fv' (F ++ [(a, b)]) := of5.keep k6 (fun j hj hc => by simp at hc; have := ff2 j hj; omega)
      have ou6 : Own natF H6 uv up1 := ou5.keep k6 (fun j hj hc => by simp at hc; exact (hX.uB j hj).2.2.1 hc)
      have D6 := LAt.field D5 k6 (by simp; omega) (fun j hj hc => by simp at hc; exact (hX.fB j hj).2.2 hc)
      have ll6 := ol6.lies natF_even
      obtain ⟨H7, st7, o7, k7, n7⟩ := storeNY ol6 (i := c) (by omega) X.hb (fun j hj => (hX.lB j hj).2.2.2.2.2) (F.length + 1)
      have hP7 := k7.get hP6 (fun h => (hX.lB k h).2.1 rfl)
      have hM7 := k7.get hM6 (fun h => (hX.lB kM h).2.2.1 rfl)
      have oz7 : Own natF H7 zv' (Z ++ [0]) := oz6.keep k7 (fun j hj hc => by have := (zf3 j hj).1; have := (hX.lB j hc).1; omega)
      have of7 : Own cellF H7 fv' (F ++ [(a, b)]) := of6.keep k7 (fun j hj hc => by have := ff2 j hj; have := (hX.lB j hc).1; omega)
      have ou7 : Own natF H7 uv up1 := ou6.keep k7 (fun j hj hc => (hX.uB j hj).2.2.2.2.2.1 hc)
      have D7 := LAt.field D6 k7 (fun h => (hX.lB kf h).2.2.2.1 rfl) (fun j hj hc => (hX.lB j hc).2.2.2.2.1 hj)
      have lz7 := oz7.lies natF_even
      have hzl : (Z ++ [0]).length = F.length + 1 := by simp [hZl]
      have hzg : (Z ++ [0])[F.length]? = some 0 := by rw [← hZl, List.getElem?_append_right (Nat.le_refl _), Nat.sub_self]; rfl
      have lzO : loadO (hget H7 (slN zv') (slW zv')) (slO zv' + F.length) none = some (.int .i64 0) := (hp_load (m := Hm []) (H := H7) _ _ _ _).symm.trans (lz7.loadN' hzg (X := Hm H7) (hpsub_refl _))
      obtain ⟨H8, st8, o8, k8, n8⟩ := storeNY oz7 (i := F.length) (by omega) X.hb (fun j hj => by have := (zf3 j hj).1; omega) 1
      have wm : IntKind.wrap .i64 (((F.length + 1 : Nat) : Int) - 1) = (F.length : Int) := by rw [wrap_small (by omega) (by omega)]; omega
      have lf5 : ∀ (Y : Mem), lenV fv' Y = some (.int .i64 ((F.length + 1 : Nat) : Int), Y) := fun Y => by have := (of5.lies cellF_even).len Y; rw [this]; simp
      refine ⟨H8, up1, L.set c (F.length + 1), F ++ [(a, b)], (Z ++ [0]).set F.length 1, alSet (rt c : Int) ((F.length + 1 : Nat) : Int) M, _, fv', zv', some k, ?_, ⟨k8.get hP7 (fun h => by have := (zf3 k h).1; omega), LAt.field D7 k8 (fun h => by have := (zf3 kf h).1; omega) (fun j hj hc => by have := (zf3 j hc).1; have := (hX.fB j hj).1; omega), ou7.keep k8 (fun j hj hc => by have := (zf3 j hc).1; have := (hX.uB j hj).1; omega), o7.keep k8 (fun j hj hc => by have := (zf3 j hc).1; have := (hX.lB j hj).1; omega), of7.keep k8 (fun j hj hc => (zf3 j hc).2 hj), o8, k8.get hM7 (fun h => by have := (zf3 kM h).1; omega), ff2, zf3, by omega⟩, W1, by omega, hyes, hM.set _ _ (by omega), ?_, .inr rfl⟩
      rotate_left
      · have s1 : Keep (k :: kM :: (slFp uv ++ slFp lv ++ slFp fv ++ slFp zv)) Hk H1 := k1.weak (fun m hm _ => by simp [hm])
        have s5 := s1.trans' kA5 (fun m hm hl => by
          rcases List.mem_cons.1 hm with h | h
          · simp [h]
          · rcases List.mem_append.1 h with h | h <;> simp [h])
        have s7 := (s5.trans' k6 (fun m hm hl => by simp at hm; simp [hm])).trans' k7 (fun m hm hl => by simp [hm])
        exact s7.trans' k8 (fun m hm hl => by
          rcases f3 m hm with h | h
          · simp [h]
          · omega)
      intro fs e
      rw [RV_go (l := ⟨.ready, none, _, _, _, _⟩) _ _ _ (by simp (maxDischargeDepth := 8) only [go_sem, la2]; rfl) rfl rfl (by simp (maxDischargeDepth := 8) only [go_sem, la2, hw])]
      simp (maxDischargeDepth := 8) only [go_sem, la2, hw, so.l, hst, h0, hP, paC, wb, wi]
      generalize hz : RF tb f_parts_root _ _ = z
      obtain rfl := hz.symm.trans (r1 _ (by rfl) (by rfl) (by simp (maxDischargeDepth := 8) only [go_sem, hw]))
      simp (maxDischargeDepth := 8) only [go_sem, hw, hM1, hA, Option.getD_none, show ((0 : Int) == 0) = true from by decide, hP1, paC, shut_get, hHa, ka.get hP1 (by simp), ka.get hM1 (by simp)]
      rw [ap1' _ _ (aw_of of1 (fun j hj w => by have := A.ff j hj; simp; omega)) (by rfl) (by rfl)]
      simp (maxDischargeDepth := 8) only [go_sem, hw, hHb]
      rw [ap2' _ _ (aw_of oz2 (fun j hj w => by simp)) (by rfl) (by rfl)]
      simp (maxDischargeDepth := 8) only [go_sem, hw, hP3, hhb, paC, sfv'.l, sfv'.c, sfv'.k, sfv'.o, szv'.l, szv'.c, szv'.k, szv'.o, hH4', hP4, hH5', hfx, hzx, shut_get, hP5, lf5, hbm, hM5, hA, eset, hH6, show escMin (some k) (some k) = some k by simp [escMin], hP6, hM6, hA6, Option.getD_some, ll6.iaddrN (i := c) (by omega)]
      have e7 : ∀ f g e' e2, ((((X.hp H6).fr f e').frs fs e).fr g e2).store (.hp (slN lv) (slW lv)) (slO lv + c) [.int .i64 ((F.length + 1 : Nat) : Int)] = some ((((X.hp H7).fr f e').frs fs e).fr g e2) := fun f g e' e2 => st7 _ rfl rfl
      simp (maxDischargeDepth := 8) only [go_sem, hw, e7, hP7, hM7, hA6, paC, shut_get, Option.getD_some, wm, lz7.iaddrN (i := F.length) (by omega), lzO, show IntKind.wrap .i64 1 = 1 by decide]
      have e8 : ∀ f g e' e2, ((((X.hp H7).fr f e').frs fs e).fr g e2).store (.hp (slN zv') (slW zv')) (slO zv' + F.length) [.int .i64 1] = some ((((X.hp H8).fr f e').frs fs e).fr g e2) := fun f g e' e2 => st8 _ rfl rfl
      simp (maxDischargeDepth := 8) only [go_sem, hw, e8]
      rw [escOk_some (hget_lt A.P), if_neg (by decide)]
    · obtain ⟨m, hm⟩ : ∃ m, num (rt c) = m := ⟨_, rfl⟩
      rw [hm] at hnum hyes
      have hml : m ≤ F.length := by rw [← hm]; exact hB.le _
      rw [if_neg hnum, if_neg hnum, if_neg hnum, show (fun r => if m = 0 ∧ r = rt c then F.length + 1 else num r) = num from funext fun r => if_neg (fun h => hnum h.1)] at hyes
      have hA : assoc (.int .i64 (rt c : Int)) (alV intV intV M) = some (some (.int .i64 (m : Int))) := by
        rw [assoc_int, hM, hm, if_neg hnum]; rfl
      obtain ⟨H2, st2, o2, k2, n2⟩ := storeNY ol1 (i := c) (by omega) X.hb (fun j hj => (hX.lB j hj).2.2.2.2.2) m
      have nkl : k ∉ slFp lv := fun h => (hX.lB k h).2.1 rfl
      have nml : kM ∉ slFp lv := fun h => (hX.lB kM h).2.2.1 rfl
      have hP2 := k2.get hP1 nkl
      have hM2 := k2.get hM1 nml
      have oz2 : Own natF H2 zv Z := oz1.keep k2 (fun j hj hc => by have := (A.zf j hj).1; have := (hX.lB j hc).1; omega)
      have of2 : Own cellF H2 fv F := of1.keep k2 (fun j hj hc => by have := A.ff j hj; have := (hX.lB j hc).1; omega)
      have D2 := LAt.field D1 k2 (fun h => (hX.lB kf h).2.2.2.1 rfl) (fun j hj hc => (hX.lB j hc).2.2.2.2.1 hj)
      obtain ⟨z, hz1⟩ : ∃ z, Z[m - 1]? = some z := ⟨_, List.getElem?_eq_getElem (by omega)⟩
      have hzd : Z.getD (m - 1) 0 = z := by rw [List.getD_eq_getElem?_getD, hz1]; rfl
      rw [hzd] at hyes
      have hzb : z ≤ c := by
        have : ∀ q j, cnP (fun i => L.getD i 0) q j ≤ j := fun q j => by
          induction j with
          | zero => exact Nat.le_refl _
          | succ j ih => simp only [cnP]; split <;> omega
        rw [hB.zs, List.getElem?_map, List.getElem?_range (by omega)] at hz1
        simp only [Option.map_some, Option.some.injEq] at hz1
        rw [← hz1]; exact this _ c
      obtain ⟨H3, st3, o3, k3, n3⟩ := storeNY oz2 (i := m - 1) (by omega) X.hb (fun j hj => by have := (A.zf j hj).1; omega) (z + 1)
      have wm : IntKind.wrap .i64 ((m : Int) - 1) = ((m - 1 : Nat) : Int) := by rw [wrap_small (by omega) (by omega)]; omega
      have lz2 := oz2.lies natF_even
      have ll1 := ol1.lies natF_even
      have lzO : loadO (hget H2 (slN zv) (slW zv)) (slO zv + (m - 1)) none = some (.int .i64 (z : Int)) := (hp_load (m := Hm []) (H := H2) _ _ _ _).symm.trans (lz2.loadN' hz1 (X := Hm H2) (hpsub_refl _))
      have nkz : k ∉ slFp zv := fun h => by have := (A.zf k h).1; omega
      have nmz : kM ∉ slFp zv := fun h => by have := (A.zf kM h).1; omega
      refine ⟨H3, up1, L.set c m, F, Z.set (m - 1) (z + 1), M, num, fv, zv, none, ?_, ⟨k3.get hP2 nkz, LAt.field D2 k3 (fun h => by have := (A.zf kf h).1; omega) (fun j hj hc => by have := (A.zf j hc).1; have := (hX.fB j hj).1; omega), (o1.keep k2 (fun j hj hc => (hX.uB j hj).2.2.2.2.2.1 hc)).keep k3 (fun j hj hc => by have := (A.zf j hc).1; have := (hX.uB j hj).1; omega), o2.keep k3 (fun j hj hc => by have := (A.zf j hc).1; have := (hX.lB j hj).1; omega), of2.keep k3 (fun j hj hc => (A.zf j hc).2 hj), o3, k3.get hM2 nmz, A.ff, A.zf, by have := A.hl; omega⟩, W1, by omega, hyes, hM, ?_, .inl ⟨rfl, by omega⟩⟩
      · intro fs e
        have st2' : ∀ {Y : Mem}, Y.heap = H1 → Y.hb = X.hb → Y.store (.hp (slN lv) (slW lv)) (slO lv + c) [.int .i64 (m : Int)] = some (Y.hp H2) := fun h1 h2 => st2 _ h1 h2
        rw [RV_go (l := ⟨.ready, none, _, _, _, _⟩) _ _ _ (by simp (maxDischargeDepth := 8) only [go_sem, la2]; rfl) rfl rfl (by simp (maxDischargeDepth := 8) only [go_sem, la2, hw])]
        simp (maxDischargeDepth := 8) only [go_sem, la2, hw, so.l, hst, h0, hP, paC, wb, wi]
        generalize hz : RF tb f_parts_root _ _ = z
        obtain rfl := hz.symm.trans (r1 _ (by rfl) (by rfl) (by simp (maxDischargeDepth := 8) only [go_sem, hw]))
        simp (maxDischargeDepth := 8) only [go_sem, hw, hM1, hA, show ((m : Int) == 0) = false from beq_eq_false_iff_ne.2 (by omega), hP1, paC, shut_get, ll1.iaddrN (i := c) (by omega)]
        have e2 : ∀ f g e', ((((X.hp H1).fr f e').frs fs e).fr g none).store (.hp (slN lv) (slW lv)) (slO lv + c) [.int .i64 (m : Int)] = some ((((X.hp H2).fr f e').frs fs e).fr g none) := fun f g e' => st2' rfl rfl
        simp (maxDischargeDepth := 8) only [go_sem, hw, e2, hP2, hM2, hA, paC, shut_get, wm, lz2.iaddrN (i := m - 1) (by omega), lzO, wrap_succ (show z ≤ 4611686018427387903 by omega)]
        have e3 : ∀ f g e', ((((X.hp H2).fr f e').frs fs e).fr g none).store (.hp (slN zv) (slW zv)) (slO zv + (m - 1)) [.int .i64 ((z + 1 : Nat) : Int)] = some ((((X.hp H3).fr f e').frs fs e).fr g none) := fun f g e' => st3 _ rfl rfl
        simp (maxDischargeDepth := 8) only [go_sem, hw, e3]
        rw [List.take_of_length_le (by omega)]
      · have q1 : ∀ {S A B}, Keep S A B → (∀ j ∈ S, j ∈ k :: kM :: (slFp uv ++ slFp lv ++ slFp fv ++ slFp zv)) → Keep (k :: kM :: (slFp uv ++ slFp lv ++ slFp fv ++ slFp zv)) A B := fun h hs => h.weak (fun m hm _ => hs m hm)
        exact ((q1 k1 (fun j hj => by simp [hj])).trans (q1 k2 (fun j hj => by simp [hj]))).trans (q1 k3 (fun j hj => by simp [hj]))
theorem may_all7 {W : Wd} (w1 : 1 ≤ W.w ∧ W.w ≤ 128) (w2 : 1 ≤ W.h ∧ W.h ≤ 128) : mayB 0 0 W.w W.h = true := by
  have q1 : lastX 0 W.w = W.w - 1 := by unfold lastX; rw [wrap_small (x := 0 + W.w) (by omega) (by omega), wrap_small (by omega) (by omega)]; omega
  have q2 : lastX 0 W.h = W.h - 1 := by unfold lastX; rw [wrap_small (x := 0 + W.h) (by omega) (by omega), wrap_small (by omega) (by omega)]; omega
  simp only [mayB, nearC, nearP, sideB, q1, q2, Bool.and_eq_true, decide_eq_true_eq]
  omega
theorem shut_hap7 (Z : Mem) (L : Hp) : (Z.shut.hap L).reopen Z = Z.hap L := id rfl
theorem lnk_none {E : Nat → Nat → Prop} (h : ∀ a b, ¬ E a b) {x y : Nat} (l : Lnk E x y) : x = y := by
  induction l with
  | refl => rfl
  | step _ e _ => rcases e with e | e <;> exact absurd e (h _ _)
/-- What label leaves. -/
def LabelRes (X : Mem) (k : Nat) (p : WP) (W : Wd) (cl sz : Int) (kf : Nat) (z : Option (SV × Mem)) : Prop :=
  ∃ H' lv' fv' zv' L F Z num rt, z = some (.tup [], (X.hp H').es (escMin X.esc (some k))) ∧ hget H' k 0 = some (.cells true (paC p W cl sz kf lv' fv' zv' (W.dirty.length : Int))) ∧ Own natF H' lv' L ∧ Own cellF H' fv' F ∧ Own natF H' zv' Z ∧ Lab (W.w.toNat * W.h.toNat) (stI W cl sz) rt (fun i => (((i % W.w.toNat : Nat) : Int), ((i / W.w.toNat : Nat) : Int))) (W.w.toNat * W.h.toNat) L F Z num ∧ (∀ x y, x < W.w.toNat * W.h.toNat → y < W.w.toNat * W.h.toNat → (rt x = rt y ↔ Lnk (EL W cl sz (W.w.toNat * W.h.toNat)) x y)) ∧ Keep [k] X.heap H' ∧ (∀ j ∈ slFp lv', X.hl ≤ j) ∧ (∀ j ∈ slFp fv', X.hl ≤ j) ∧ (∀ j ∈ slFp zv', X.hl ≤ j)
theorem r_parts_label {X : Mem} {k kf : Nat} {p : WP} {W : Wd} {cl sz : Int} {flv lv fv zv : SV} {fep ep : Int} (hP : hget X.heap k 0 = some (.cells true (paC p W cl sz kf lv fv zv ep))) (hF : FieldAt (Hm X.heap) kf p W cl flv fep (W.clrs cl)) (hs : 1 ≤ sz ∧ sz ≤ 4) (hw : X.Wf) (hhb : X.hb ≤ k) (hkf : kf < X.heap.length) (hfl : ∀ i ∈ slFp flv, i < X.heap.length) (hO : WorldOwn X.heap p W) (hkp : k ∉ p.fp) (hkk : kf ≠ k) (hkfl : k ∉ slFp flv) :
    LabelRes X k p W cl sz kf (RF tb f_parts_Parts_label [.ptr (.hp k 0) 0] X) := by
  rw [RF_go t_parts_Parts_label _ _ rfl, push_hp]
  generalize hH : X.heap = H at *
  have hHl : X.hl = H.length := by rw [← hH]; rfl
  obtain ⟨n, hn⟩ : ∃ n, (Bx.mk 0 0 W.w W.h).n = n := ⟨_, rfl⟩
  have w1 := hF.w1
  have w2 := hF.h1
  have hwh : W.w * W.h = (n : Int) := by rw [← hn]; show W.w * W.h = ((W.w.toNat * W.h.toNat : Nat) : Int); rw [Int.natCast_mul, Int.toNat_of_nonneg (by omega), Int.toNat_of_nonneg (by omega)]
  have hn2 : n ≤ 16384 := by rw [← hn]; show W.w.toNat * W.h.toNat ≤ 16384; exact Nat.mul_le_mul (show W.w.toNat ≤ 128 by omega) (show W.h.toNat ≤ 128 by omega)
  have wn : IntKind.wrap .i64 (W.w * W.h) = (n : Int) := by rw [wrap_small (by omega) (by omega), hwh]
  have hv2 : ((8 : Int) * (n : Int) ≤ (two48 : Int)) = True := by simp [two48]; omega
  have hv3 : ((n : Int) < 9223372036854775808) = True := by simp; omega
  have hv4 : ((0 : Int) ≤ (n : Int)) = True := by simp
  simp (maxDischargeDepth := 8) only [go_sem, s_parts_Parts_label, hw, hH, hP, paC, wn, hv2, hv3, hv4, Int.le_refl]
  obtain ⟨H1, hH1⟩ : ∃ H1, H ++ [(0, SBk.cells true (List.replicate n [SV.int .i64 0]).flatten)] = H1 := ⟨_, rfl⟩
  have own : Own natF H1 (.sl (.hp H.length 0) 0 n (some n) 1) (List.replicate n 0) := by rw [← hH1]; exact mkslV_own natF_even H 0 n
  have k1 : Keep [] H H1 := by rw [← hH1]; exact Keep.app _ _ _
  have fp : ∀ i ∈ slFp (.sl (.hp H.length 0) 0 n (some n) 1), H.length ≤ i := by simp [slFp]
  have kl := hget_lt hP
  rw [hH1]
  generalize (SV.sl (.hp H.length 0) 0 n (some n) 1) = uv at *
  refine KL_ind (R := fun z => LabelRes X k p W cl sz kf (fin [] X z)) (α := Nat × List Nat × Hp) (fun q => n - q.1)
    (fun q => [(1, .ptr (.st X.dep 0) 0), (2, .int .i64 (n : Int)), (3, .ptr (.st X.dep 1) 0), (25, .i n), (26, .int .i64 (q.1 : Int))])
    (fun q => (X.hp q.2.2).fr [.cells true [.ptr (.hp k 0) 0], .cells true [uv]] none)
    (fun q => q.1 ≤ n ∧ Own natF q.2.2 uv q.2.1 ∧ q.2.1.length = n ∧ (∀ j, j < q.1 → q.2.1[j]? = some j) ∧ Keep [] H q.2.2) ?_ (0, List.replicate n 0, H1) ⟨Nat.zero_le _, own, by simp, by simp, k1⟩
  clear own k1 hH1
  rintro ⟨i, up, Hc⟩ ⟨hi, ow, hlen, hj, kc⟩ ih
  dsimp only at hi ow hlen hj kc ⊢
  have so := ow.isSl natF_even
  have lo := ow.lies natF_even
  have hk1 := kc.1
  simp (maxDischargeDepth := 8) only [go_sem, hw, so.l, lo.len, hlen]
  by_cases hlt : i < n
  · obtain ⟨H2, st, o2, k2, l2⟩ := storeN ow (i := i) (by omega) X (fun j hj => by have := fp j hj; omega) i
    simp (maxDischargeDepth := 8) only [go_sem, show decide ((i : Int) < (n : Int)) = true from decide_eq_true (by omega), hw, so.l, lo.iaddrN (show i < up.length by omega), st, wrap_succ (show i ≤ 4611686018427387903 by omega)]
    rw [KL_keep _ _ _ (by simp (maxDischargeDepth := 8) only [go_sem, so.l])]
    simp (maxDischargeDepth := 8) only [go_sem]
    refine ih (i + 1, up.set i i, H2) ⟨by dsimp only; omega, o2, by rw [List.length_set]; exact hlen, fun j hj2 => ?_, kc.trans' k2 (fun m hm hl => by have := fp m hm; omega)⟩ (by dsimp only; omega)
    dsimp only at hj2 ⊢
    rw [List.getElem?_set]
    by_cases e : i = j
    · rw [if_pos e, if_pos (by omega), e]
    · rw [if_neg e]; exact hj j (by omega)
  · have ein : n = i := by omega
    subst ein
    clear ih
    have hup : up = List.range n := by
      apply List.ext_getElem?
      intro j
      by_cases h1 : j < n
      · rw [hj j h1, List.getElem?_range h1]
      · rw [List.getElem?_eq_none (by omega), List.getElem?_eq_none (by simp; omega)]
    have hPc := kc.get hP (by simp)
    simp (maxDischargeDepth := 8) only [go_sem, show decide ((n : Int) < (n : Int)) = false from decide_eq_false (by omega), hw, so.l, hPc, paC, r_cell_Cells]
    have hnw : n = W.w.toNat * W.h.toNat := by rw [← hn]; rfl
    obtain ⟨HA, hHA⟩ : ∃ HA, Hc ++ [(0, SBk.cells true [.int .i64 0, .int .i64 0, .int .i64 W.w, .int .i64 W.h])] = HA := ⟨_, rfl⟩
    have kA : Keep [] Hc HA := by rw [← hHA]; exact Keep.app _ _ _
    have lA : HA.length = Hc.length + 1 := by rw [← hHA, List.length_append]; rfl
    have a0 : hget HA Hc.length 0 = some (.cells true [.int .i64 0, .int .i64 0, .int .i64 W.w, .int .i64 W.h]) := by rw [← hHA]; exact hget_new0 0 _
    rw [hHA]
    have owA := ow.keep kA (by simp)
    have fpc := ow.fp
    have hmay : mayB 0 0 W.w W.h = true := may_all7 w1 w2
    have hbx : ∀ Hk st, Keep (slFp uv) HA Hk → boxAt (X.dep + 1) Hc.length 0 0 W.w W.h (laM X k uv n Hc.length st Hk) := fun Hk st k' => ⟨rfl, by simp (maxDischargeDepth := 8) only [go_sem, hw], k'.get a0 (fun hc => by have := fpc _ hc; omega)⟩
    have hFA : FieldAt (Hm HA) kf p W cl flv fep (W.clrs cl) := by
      have kk := kc.trans kA
      exact ⟨kk.get (show hget H kf 0 = _ from hF.hd) (by simp), hF.ll.keep kk (by simp), hF.len, hF.w1, hF.h1⟩
    have hPA := kA.get hPc (by simp)
    have hkn : k ∉ slFp uv := fun hc => by have := fp k hc; omega
    have hfk : ∀ i ∈ slFp uv, i ≠ kf ∧ i ∉ slFp flv := fun i hi => ⟨fun e => by have := fp i hi; omega, fun hc => by have := fp i hi; have := hfl i hc; omega⟩
    generalize hz : RF tb f_cell_Cells_1 _ _ = z
    refine cells_rangeZ (M := laM X k uv n Hc.length .ready HA) (d := X.dep + 1) hz 0 0 W.w W.h (fun M1 kk m v => v = none ∧ ∃ Hk up dp rt, m = laM X k uv n Hc.length .ready Hk ∧ Own natF Hk uv up ∧ Well up rt dp ∧ up.length = n ∧ Keep (slFp uv) HA Hk ∧ Hk.length = HA.length ∧ ∀ x y, x < n → y < n → (rt x = rt y ↔ Lnk (EL W cl sz kk) x y)) (fun _ _ _ _ => False) (Nat.lt_succ_self _) (hbx _ _ (Keep.refl _ _)) ⟨rfl, HA, up, fun _ => 0, fun i => i, rfl, owA, by rw [hup]; exact well_new n, hlen, Keep.refl _ _, rfl, fun x y _ _ => ⟨fun e => by dsimp only at e; subst e; exact .refl _, fun l => lnk_none (fun a b e => by have := e.1; omega) l⟩⟩ ?_ ?_
    · rintro kk a b m v hk ⟨rfl, Hk, up', dp, rt, rfl, ow', W', l', k', e', hr⟩
      have hk2 : kk < n ∧ a = ((kk % W.w.toNat : Nat) : Int) ∧ b = ((kk / W.w.toNat : Nat) : Int) := by
        unfold cellsP at hk
        rw [if_pos hmay, List.getElem?_map] at hk
        have hlt2 : kk < W.w.toNat * W.h.toNat := by
          rcases Nat.lt_or_ge kk (W.w.toNat * W.h.toNat) with h | h
          · exact h
          · rw [List.getElem?_eq_none (by simpa using h)] at hk; cases hk
        rw [List.getElem?_range hlt2] at hk
        simp only [Option.map_some, Option.some.injEq, Prod.mk.injEq] at hk
        refine ⟨by omega, ?_, ?_⟩ <;> omega
      obtain ⟨hkn2, rfl, rfl⟩ := hk2
      have hat : (Bx.mk 0 0 W.w W.h).at kk = (((kk % W.w.toNat : Nat) : Int), ((kk / W.w.toNat : Nat) : Int)) := by unfold Bx.at; simp
      have hb9 := Bx.at_has (r := Bx.mk 0 0 W.w W.h) (i := kk) (by rw [hn]; exact hkn2)
      rw [hat] at hb9
      have hFk : FieldAt (Hm Hk) kf p W cl flv fep (W.clrs cl) := ⟨k'.get (show hget HA kf 0 = _ from hFA.hd) (fun hc => (hfk _ hc).1 rfl), hFA.ll.keep k' (fun j hj hc => (hfk _ hc).2 hj), hFA.len, hFA.w1, hFA.h1⟩
      obtain ⟨Hk', up2, dp2, y1, y2, y3, y4, y5, y6⟩ := label_yield (n0 := Hc.length) hw (k'.get hPA hkn) hFk hs ow' W' l' hn2 hnw (fun j hj => by have := fp j hj; omega) hkn hfk hb9.1
      rw [hb9.2] at y3
      exact ⟨_, none, true, y1, hbx _ _ (k'.trans y5), .inl (by show Hk'.length = HA.length; omega), fun _ => ⟨rfl, Hk', up2, dp2, _, rfl, y2, y3, y4, k'.trans y5, by omega, rtN_law (by omega) hkn2 hr⟩, fun h => (by cases h)⟩
    · rintro M' U hz' - - (⟨rfl, Hk, up', dp, rt, rfl, ow', W', l', k', e', hr⟩ | ⟨_, _, h⟩)
      · subst hz'
        have kHk : Keep [] H Hk := (kc.trans kA).trans' k' (fun m hm hl => by have := fp m hm; omega)
        have hPk := kHk.get hP (by simp)
        have hkl := kHk.1
        obtain ⟨HB, hHB⟩ : ∃ HB, Hk ++ [(0, SBk.cells true (List.replicate n [SV.int .i64 0]).flatten)] = HB := ⟨_, rfl⟩
        have ownL : Own natF HB (.sl (.hp Hk.length 0) 0 n (some n) 1) (List.replicate n 0) := by rw [← hHB]; exact mkslV_own natF_even Hk 0 n
        have kB : Keep [] Hk HB := by rw [← hHB]; exact Keep.app _ _ _
        have hPB := kB.get hPk (by simp)
        have hkB := hget_lt hPB
        simp (maxDischargeDepth := 8) only [go_sem, laM, hw, so.l, hv2, hv3, hv4, Int.le_refl, shut_hap7, hHB, hPB, hPk, paC, hhb]
        obtain ⟨C1, hC1⟩ : ∃ C1, HB.set k (0, SBk.cells true [.ptr (.hp p.k 0) 0, .int .i64 cl, .int .i64 sz, .int .i64 0, .int .i64 0, .int .i64 W.w, .int .i64 W.h, .ptr (.hp kf 0) 0, .sl (.hp Hk.length 0) 0 n (some n) 1, fv, zv, .int .i64 ep]) = C1 := ⟨_, rfl⟩
        have hP1 : hget C1 k 0 = some (.cells true (paC p W cl sz kf (.sl (.hp Hk.length 0) 0 n (some n) 1) fv zv ep)) := by rw [← hC1, hget_set_eq hkB, if_pos rfl]
        have kC1 : Keep [k] HB C1 := by rw [← hC1]; exact Keep.set (by simp) _ _
        have lC1 : C1.length = HB.length := by rw [← hC1, List.length_set]
        rw [hC1]
        simp (maxDischargeDepth := 8) only [go_sem, hw, hP1, paC, hhb]
        obtain ⟨C2, hC2⟩ : ∃ C2, C1.set k (0, SBk.cells true [.ptr (.hp p.k 0) 0, .int .i64 cl, .int .i64 sz, .int .i64 0, .int .i64 0, .int .i64 W.w, .int .i64 W.h, .ptr (.hp kf 0) 0, .sl (.hp Hk.length 0) 0 n (some n) 1, .nils, zv, .int .i64 ep]) = C2 := ⟨_, rfl⟩
        have hP2 : hget C2 k 0 = some (.cells true (paC p W cl sz kf (.sl (.hp Hk.length 0) 0 n (some n) 1) .nils zv ep)) := by rw [← hC2, hget_set_eq (by omega), if_pos rfl]
        have kC2 : Keep [k] C1 C2 := by rw [← hC2]; exact Keep.set (by simp) _ _
        have lC2 : C2.length = C1.length := by rw [← hC2, List.length_set]
        rw [hC2]
        simp (maxDischargeDepth := 8) only [go_sem, hw, hP2, paC, hhb]
        obtain ⟨C3, hC3⟩ : ∃ C3, C2.set k (0, SBk.cells true [.ptr (.hp p.k 0) 0, .int .i64 cl, .int .i64 sz, .int .i64 0, .int .i64 0, .int .i64 W.w, .int .i64 W.h, .ptr (.hp kf 0) 0, .sl (.hp Hk.length 0) 0 n (some n) 1, .nils, .nils, .int .i64 ep]) = C3 := ⟨_, rfl⟩
        have hP3 : hget C3 k 0 = some (.cells true (paC p W cl sz kf (.sl (.hp Hk.length 0) 0 n (some n) 1) .nils .nils ep)) := by rw [← hC3, hget_set_eq (by omega), if_pos rfl]
        have kC3 : Keep [k] C2 C3 := by rw [← hC3]; exact Keep.set (by simp) _ _
        have lC3 : C3.length = C2.length := by rw [← hC3, List.length_set]
        rw [hC3]
        obtain ⟨D0, hD0⟩ : ∃ D0, C3 ++ [(0, SBk.map [])] = D0 := ⟨_, rfl⟩
        have kD0 : Keep [] C3 D0 := by rw [← hD0]; exact Keep.app _ _ _
        have hPD := kD0.get hP3 (by simp)
        rw [hD0]
        simp (maxDischargeDepth := 8) only [go_sem, hw, hPD, paC, r_cell_Cells]
        have hkk0 := kHk.1
        have hHkl := kl
        rw [if_neg (show ¬ List.length Hk + 1 ≤ k by omega)]
        generalize hlb : SBk.loop _ = lb
        obtain ⟨DA, hDA⟩ : ∃ DA, D0 ++ [(0, SBk.cells true [.int .i64 0, .int .i64 0, .int .i64 W.w, .int .i64 W.h])] = DA := ⟨_, rfl⟩
        rw [hDA]
        have kDA : Keep [] D0 DA := by rw [← hDA]; exact Keep.app _ _ _
        have lDA : DA.length = D0.length + 1 := by rw [← hDA, List.length_append]; rfl
        have lD0 : D0.length = C3.length + 1 := by rw [← hD0, List.length_append]; rfl
        have a1 : hget DA D0.length 0 = some (.cells true [.int .i64 0, .int .i64 0, .int .i64 W.w, .int .i64 W.h]) := by rw [← hDA]; exact hget_new0 0 _
        have hM0 : hget DA C3.length 0 = some (.map []) := kDA.get (by rw [← hD0]; exact hget_new0 0 _) (by simp)
        have kHB : Keep [k] HB C3 := (kC1.trans kC2).trans kC3
        have kBD : Keep [k] HB DA := (kHB.trans' kD0 (by simp)).trans' kDA (by simp)
        have kHD : Keep [k] H DA := ((kHk.weak (by simp)).trans' kB (by simp)).trans kBD
        have lHB : HB.length = Hk.length + 1 := by rw [← hHB, List.length_append]; rfl
        have lC : C3.length = HB.length := by omega
        have fpu := ow'.fp
        have fl1 : ∀ j ∈ slFp (.sl (.hp Hk.length 0) 0 n (some n) 1), j = Hk.length := by simp [slFp]
        have hfx : LFix X k C3.length kf uv (.sl (.hp Hk.length 0) 0 n (some n) 1) flv DA.length := by
          refine ⟨⟨by omega, by omega, by omega, hkk, by omega⟩, fun j hj => ?_, fun j hj => ?_, fun j hj => ?_, hhb⟩
          · have b1 := fp j hj
            have b2 := fpu j hj
            exact ⟨by omega, by omega, by omega, by omega, fun hc => by have := hfl j hc; omega, fun hc => by have := fl1 j hc; omega, by omega⟩
          · have b1 := fl1 j hj
            exact ⟨by omega, by omega, by omega, by omega, fun hc => by have := hfl j hc; omega, by omega⟩
          · have b1 := hfl j hj
            exact ⟨by omega, fun e => hkfl (by rw [← e]; exact hj), by omega⟩
        have hPA2 := kDA.get hPD (by simp)
        have hA0 : LAt X k C3.length kf p W cl sz uv (.sl (.hp Hk.length 0) 0 n (some n) 1) flv fep DA.length DA up' (List.replicate n 0) [] [] [] .nils .nils ep :=
          ⟨hPA2, LAt.field hF kHD (by simp; exact hkk) (fun j hj hc => by simp at hc; subst hc; exact hkfl hj), (ow'.keep kB (by simp)).keep kBD (fun j hj hc => by simp at hc; have := fp j hj; omega), ownL.keep kBD (fun j hj hc => by simp at hc; have := fl1 j hj; omega), Own.nil _, Own.nil _, hM0, by simp [slFp], by simp [slFp], Nat.le_refl _⟩
        have hr' : ∀ x y, x < n → y < n → (rt x = rt y ↔ Lnk (EL W cl sz n) x y) := by
          have : (cellsP 0 0 W.w W.h).length = n := by unfold cellsP; rw [if_pos hmay, List.length_map, List.length_range]; exact hnw.symm
          rw [this] at hr; exact hr
        generalize hz : RF tb f_cell_Cells_1 _ _ = z
        refine cells_rangeZ (M := la2 X k uv C3.length D0.length lb .ready DA (some k)) (d := X.dep + 1) hz 0 0 W.w W.h (fun M1 kk m v => ∃ Hj upj L F Z M num fvj zvj, m = la2 X k uv C3.length D0.length lb .ready Hj (some k) ∧ LAt X k C3.length kf p W cl sz uv (.sl (.hp Hk.length 0) 0 n (some n) 1) flv fep DA.length Hj upj L F Z M fvj zvj ep ∧ Well upj rt dp ∧ upj.length = n ∧ Lab n (stI W cl sz) rt (fun i => (((i % W.w.toNat : Nat) : Int), ((i / W.w.toNat : Nat) : Int))) kk L F Z num ∧ MNum M num ∧ Keep (k :: C3.length :: (slFp uv ++ [Hk.length])) DA Hj ∧ ((v = none ∧ Hj.length = DA.length) ∨ v = some k)) (fun _ _ _ _ => False) (Nat.lt_succ_self _) ?_ ⟨DA, up', List.replicate n 0, [], [], [], fun _ => 0, .nils, .nils, rfl, hA0, W', l', lab_zero n _ _ _, fun _ => rfl, Keep.refl _ _, .inl ⟨rfl, rfl⟩⟩ ?_ ?_
        · exact ⟨rfl, by simp (maxDischargeDepth := 8) only [go_sem, hw], a1⟩
        · rintro kk a b m v hk ⟨Hj, upj, L, F, Z, M, num, fvj, zvj, rfl, Aj, Wj, lj, Bj, Mj, Kj, ej⟩
          have hk2 : kk < n ∧ a = ((kk % W.w.toNat : Nat) : Int) ∧ b = ((kk / W.w.toNat : Nat) : Int) := by
            unfold cellsP at hk
            rw [if_pos hmay, List.getElem?_map] at hk
            have hlt2 : kk < W.w.toNat * W.h.toNat := by
              rcases Nat.lt_or_ge kk (W.w.toNat * W.h.toNat) with h | h
              · exact h
              · rw [List.getElem?_eq_none (by simpa using h)] at hk; cases hk
            rw [List.getElem?_range hlt2] at hk
            simp only [Option.map_some, Option.some.injEq, Prod.mk.injEq] at hk
            refine ⟨by omega, ?_, ?_⟩ <;> omega
          obtain ⟨hkn2, rfl, rfl⟩ := hk2
          obtain ⟨Hj', up2, L2, F2, Z2, M2, num2, fv2, zv2, u, y1, y2, y3, y4, y5, y6, y7, y8⟩ := label2_yield (d0 := D0.length) (lb := lb) (e0 := some k) hw hfx Aj hs Wj lj hn2 hnw hkn2 Bj Mj
          have y7' : Keep (k :: C3.length :: (slFp uv ++ [Hk.length])) DA Hj' := Kj.trans' y7 (fun m hm hl => by
            rcases List.mem_cons.1 hm with h | h
            · simp [h]
            rcases List.mem_cons.1 h with h | h
            · simp [h]
            simp only [List.mem_append] at h
            rcases h with ((h | h) | h) | h
            · simp [h]
            · have := fl1 m h; simp [this]
            · have := Aj.ff m h; omega
            · have := (Aj.zf m h).1; omega)
          refine ⟨_, u, true, y1, ⟨rfl, by simp (maxDischargeDepth := 8) only [go_sem, hw], ?_⟩, ?_, fun _ => ⟨Hj', up2, L2, F2, Z2, M2, num2, fv2, zv2, rfl, y2, y3, y4, y5, y6, y7', ?_⟩, fun h => (by cases h)⟩
          · exact y7'.get a1 (fun hc => by
              simp only [List.mem_cons, List.mem_append, List.mem_singleton] at hc
              rcases hc with h | h | h | h
              · omega
              · omega
              · have := fpu _ h; omega
              · rcases h with h | h
                · omega
                · cases h)
          · rcases ej with ⟨rfl, e1⟩ | rfl
            · rcases y8 with ⟨rfl, e2⟩ | rfl
              · exact .inl (by show Hj'.length = DA.length; omega)
              · exact .inr ⟨k, rfl, by show k < DA.length; omega⟩
            · rcases y8 with ⟨rfl, e2⟩ | rfl
              · exact .inr ⟨k, rfl, by show k < DA.length; omega⟩
              · exact .inr ⟨k, by simp [escMin], by show k < DA.length; omega⟩
          · rcases ej with ⟨rfl, e1⟩ | rfl
            · rcases y8 with ⟨rfl, e2⟩ | rfl
              · exact .inl ⟨rfl, by omega⟩
              · exact .inr rfl
            · rcases y8 with ⟨rfl, e2⟩ | rfl
              · exact .inr rfl
              · exact .inr (by simp [escMin])
        · rintro M' U hz' - - (⟨Hj, upj, L, F, Z, M, num, fvj, zvj, rfl, Aj, Wj, lj, Bj, Mj, Kj, ej⟩ | ⟨_, _, h⟩)
          · subst hz'
            have hPj := Aj.P
            have hkj := hget_lt hPj
            have kHj : Keep [k] H Hj := kHD.trans' Kj (fun m hm hl => by
              simp only [List.mem_cons, List.mem_append, List.not_mem_nil, or_false] at hm ⊢
              rcases hm with h | h | h | h
              · exact h
              · omega
              · have := fp m h; omega
              · omega)
            have hOj : WorldOwn Hj p W := hO.keep kHj (fun i hi hc => by simp at hc; subst hc; exact hkp hi)
            obtain ⟨HF, hHF⟩ : ∃ HF, Hj.set k (0, .cells true (paC p W cl sz kf (.sl (.hp Hk.length 0) 0 n (some n) 1) fvj zvj (W.dirty.length : Int))) = HF := ⟨_, rfl⟩
            have hPF : hget HF k 0 = some (.cells true (paC p W cl sz kf (.sl (.hp Hk.length 0) 0 n (some n) 1) fvj zvj (W.dirty.length : Int))) := by rw [← hHF, hget_set_eq hkj, if_pos rfl]
            have kF : Keep [k] Hj HF := by rw [← hHF]; exact Keep.set (by simp) _ _
            have hHF' : Hj.set k (0, SBk.cells true [.ptr (.hp p.k 0) 0, .int .i64 cl, .int .i64 sz, .int .i64 0, .int .i64 0, .int .i64 W.w, .int .i64 W.h, .ptr (.hp kf 0) 0, .sl (.hp Hk.length 0) 0 n (some n) 1, fvj, zvj, .int .i64 (W.dirty.length : Int)]) = HF := hHF
            simp (maxDischargeDepth := 8) only [go_sem, la2, hw, hPj, paC, shut_get, r_grid_World_Epoch hOj.at_, hhb, hHF']
            have hU : escMin (some k) U = some k := by
              rcases ej with ⟨rfl, _⟩ | rfl
              · rfl
              · simp [escMin]
            rw [hU, escOk_some (by omega), if_neg (by decide)]
            have hlenP : (cellsP 0 0 W.w W.h).length = n := by unfold cellsP; rw [if_pos hmay, List.length_map, List.length_range]; exact hnw.symm
            rw [hlenP] at Bj
            rw [hnw] at Bj hr'
            refine ⟨HF, _, fvj, zvj, L, F, Z, num, rt, rfl, hPF, Aj.l.keep kF (fun j hj hc => by simp at hc; have := fl1 j hj; omega), Aj.f.keep kF (fun j hj hc => by simp at hc; have := Aj.ff j hj; omega), Aj.z.keep kF (fun j hj hc => by simp at hc; have := (Aj.zf j hj).1; omega), Bj, hr', ?_, fun j hj => by have := fl1 j hj; omega, fun j hj => by have := Aj.ff j hj; omega, fun j hj => by have := (Aj.zf j hj).1; omega⟩
            rw [hH]
            exact kHj.trans kF
          · exact h.elim
      · exact h.elim
/-- Parts that were made. -/
structure PA (m : Mem) (k : Nat) (W : Wd) (L : List Nat) (F : List (Int × Int)) (Z : List Nat) : Prop where
  ex : ∃ p cl sz kf lv fv zv ep, m.get (.hp k 0) = some (.cells true (paC p W cl sz kf lv fv zv ep)) ∧ LiesD natF m lv L ∧ LiesD cellF m fv F ∧ LiesD natF m zv Z
  len : L.length = W.w.toNat * W.h.toNat
  zl : Z.length = F.length
  w1 : 1 ≤ W.w ∧ W.w ≤ 128
  h1 : 1 ≤ W.h ∧ W.h ≤ 128
theorem PA.sub {m X : Mem} {k : Nat} {W : Wd} {L : List Nat} {F : List (Int × Int)} {Z : List Nat} (h : PA m k W L F Z) (hX : HpSub m X) : PA X k W L F Z := by
  obtain ⟨p, cl, sz, kf, lv, fv, zv, ep, a, b, c, d⟩ := h.ex
  exact ⟨⟨p, cl, sz, kf, lv, fv, zv, ep, hX _ _ _ a, b.sub hX, c.sub hX, d.sub hX⟩, h.len, h.zl, h.w1, h.h1⟩
def atP (W : Wd) (L : List Nat) (x y : Int) : Nat := if hasB 0 0 W.w W.h x y = true then L.getD (y.toNat * W.w.toNat + x.toNat) 0 else 0
theorem r_parts_At {m : Mem} {k : Nat} {W : Wd} {L : List Nat} {F : List (Int × Int)} {Z : List Nat} (h : PA m k W L F Z) {X : Mem} (hX : HpSub m X) (hw : X.Wf) (x y : Int) : RF tb f_parts_Parts_At [.ptr (.hp k 0) 0, cellV x y] X = some (.int .i64 (atP W L x y : Int), X) := by
  obtain ⟨p, cl, sz, kf, lv, fv, zv, ep, ha, hl, hf, hz⟩ := h.ex
  have w1 := h.w1
  have w2 := h.h1
  have hld : ∀ {Y : Mem}, HpSub m Y → ∀ off n, Y.load (.hp k 0) off n = partv (paC p W cl sz kf lv fv zv ep) off n := fun hY off n => by rw [load_get, hY _ _ _ ha]
  have his : ∀ {Y : Mem}, HpSub m Y → Y.Wf → RF tb f_parts_Parts_is [.ptr (.hp k 0) 0] Y = some (.bool true, Y) := fun hY hwY => by
    rw [RF_go t_parts_Parts_is _ _ rfl]
    simp (maxDischargeDepth := 8) only [go_sem, s_parts_Parts_is, hwY, hY, hld, paC]
  have hhas := fun (Y : Mem) (hY : Y.Wf) => r_cell_Has Y hY 0 0 W.w W.h x y
  unfold rect at hhas
  rw [RF_go t_parts_Parts_At _ _ rfl]
  unfold atP
  cases hh : hasB 0 0 W.w W.h x y with
  | false => simp (maxDischargeDepth := 8) only [go_sem, s_parts_Parts_At, cellV, hw, hX, hld, his, paC, hhas, hh]
  | true =>
    have b1 : 0 ≤ x ∧ x < W.w ∧ 0 ≤ y ∧ y < W.h := by
      have := (has_w w1 w2 (W := W)).1 hh
      omega
    have e4 : W.w.toNat * (y.toNat + 1) ≤ W.w.toNat * W.h.toNat := Nat.mul_le_mul_left _ (by omega)
    have e5 : W.w.toNat * W.h.toNat ≤ 128 * 128 := Nat.mul_le_mul (by omega) (by omega)
    rw [Nat.mul_add, Nat.mul_one, Nat.mul_comm] at e4
    have e6 : y * W.w = ((y.toNat * W.w.toNat : Nat) : Int) := by rw [Int.natCast_mul, Int.toNat_of_nonneg (by omega), Int.toNat_of_nonneg (by omega)]
    have e7 : IntKind.wrap .i64 (y * W.w) = ((y.toNat * W.w.toNat : Nat) : Int) := by rw [e6, wrap_small (by omega) (by omega)]
    have e8 : IntKind.wrap .i64 (((y.toNat * W.w.toNat : Nat) : Int) + x) = ((y.toNat * W.w.toNat + x.toNat : Nat) : Int) := by rw [wrap_small (by omega) (by omega)]; omega
    have hlt : y.toNat * W.w.toNat + x.toNat < L.length := by rw [h.len]; omega
    have hg : L[y.toNat * W.w.toNat + x.toNat]? = some (L.getD (y.toNat * W.w.toNat + x.toNat) 0) := by rw [List.getD_eq_getElem?_getD, List.getElem?_eq_getElem hlt]; rfl
    simp (maxDischargeDepth := 8) only [go_sem, s_parts_Parts_At, cellV, hw, hX, hld, his, paC, hhas, hh, e7, e8, hl.iaddrN hlt, hl.loadN' hg]
theorem r_parts_Len {m : Mem} {k : Nat} {W : Wd} {L : List Nat} {F : List (Int × Int)} {Z : List Nat} (h : PA m k W L F Z) {X : Mem} (hX : HpSub m X) (hw : X.Wf) : RF tb f_parts_Parts_Len [.ptr (.hp k 0) 0] X = some (.int .i64 (F.length : Int), X) := by
  obtain ⟨p, cl, sz, kf, lv, fv, zv, ep, ha, hl, hf, hz⟩ := h.ex
  have hld : ∀ {Y : Mem}, HpSub m Y → ∀ off n, Y.load (.hp k 0) off n = partv (paC p W cl sz kf lv fv zv ep) off n := fun hY off n => by rw [load_get, hY _ _ _ ha]
  have his : ∀ {Y : Mem}, HpSub m Y → Y.Wf → RF tb f_parts_Parts_is [.ptr (.hp k 0) 0] Y = some (.bool true, Y) := fun hY hwY => by
    rw [RF_go t_parts_Parts_is _ _ rfl]
    simp (maxDischargeDepth := 8) only [go_sem, s_parts_Parts_is, hwY, hY, hld, paC]
  rw [RF_go t_parts_Parts_Len _ _ rfl]
  simp (maxDischargeDepth := 8) only [go_sem, s_parts_Parts_Len, hw, hX, hld, his, paC, hf.len]
/-- What New comes to where a shape may be. -/
def NewP (X : Mem) (p : WP) (W : Wd) (cl sz : Int) (z : Option (SV × Mem)) : Prop :=
  ∃ H' k L F Z num rt u, z = some (.tup [.ptr (.hp k 0) 0, .int .i64 0], (X.hp H').es (escMin X.esc u)) ∧ PA (Hm H') k W L F Z ∧ Lab (W.w.toNat * W.h.toNat) (stI W cl sz) rt (fun i => (((i % W.w.toNat : Nat) : Int), ((i / W.w.toNat : Nat) : Int))) (W.w.toNat * W.h.toNat) L F Z num ∧ (∀ x y, x < W.w.toNat * W.h.toNat → y < W.w.toNat * W.h.toNat → (rt x = rt y ↔ Lnk (EL W cl sz (W.w.toNat * W.h.toNat)) x y)) ∧ Keep [] X.heap H' ∧ F.length ≤ 16384
theorem lab_small {n : Nat} {st : Nat → Bool} {rt : Nat → Nat} {cl : Nat → Int × Int} {k : Nat} {L : List Nat} {F : List (Int × Int)} {Z : List Nat} {num : Nat → Nat} (h : Lab n st rt cl k L F Z num) : F.length ≤ k := by
  have : ∀ j, (fsP (fun i => L.getD i 0) j).length ≤ j := fun j => by
    induction j with
    | zero => exact Nat.le_refl _
    | succ j ih =>
      simp only [fsP]
      split
      · rw [List.length_append, List.length_singleton]; omega
      · omega
  rw [h.fs, List.length_map]; exact this k
theorem r_parts_New {X : Mem} {p : WP} {W : Wd} (hO : WorldOwn X.heap p W) (hg : W.Good) (hw : X.Wf) (hhb : X.hb ≤ X.hl) (cl sz : Int) (hm : mayS cl sz = true) (hc : 0 ≤ cl ∧ cl < 4) (hs : 1 ≤ sz ∧ sz ≤ 4) : NewP X p W cl sz (RF tb f_parts_New [.ptr (.hp p.k 0) 0, .agg [.int .i64 cl, .int .i64 sz]] X) := by
  rw [RF_go t_parts_New _ _ rfl, push_hp]
  generalize hH : X.heap = H at *
  have hHl : X.hl = H.length := by rw [← hH]; rfl
  simp (maxDischargeDepth := 8) only [go_sem, s_parts_New, hw, hH]
  generalize hz : RF tb f_clear_New _ _ = z
  obtain ⟨kf, flv, H1, rfl, hF, k1⟩ := new_of hz (show WorldOwn H p W from hO) hg (fr_wf (hp_wf hw) _ _) (by show X.hb ≤ H.length; omega) hc
  have k1' : Keep [] H H1 := k1
  have hO1 := hO.keep k1' (by simp)
  have hl1 := k1'.1
  simp (maxDischargeDepth := 8) only [go_sem, hw, hm, r_class_May, show ((0 : Int) != 0) = false from by decide, r_grid_World_All hO1.at_, rect]
  obtain ⟨H2, hH2⟩ : ∃ H2, H1 ++ [(0, SBk.cells true [.ptr (.hp p.k 0) 0, .int .i64 cl, .int .i64 sz, .int .i64 0, .int .i64 0, .int .i64 W.w, .int .i64 W.h, .ptr (.hp kf 0) 0, .nils, .nils, .nils, .int .i64 0])] = H2 := ⟨_, rfl⟩
  have k2 : Keep [] H1 H2 := by rw [← hH2]; exact Keep.app _ _ _
  have l2 : H2.length = H1.length + 1 := by rw [← hH2, List.length_append]; rfl
  have g2 : hget H2 H1.length 0 = some (.cells true (paC p W cl sz kf .nils .nils .nils 0)) := by rw [← hH2]; exact hget_new0 0 _
  rw [hH2]
  have hkf : kf < H1.length := hget_lt (show hget H1 kf 0 = _ from hF.hd)
  have hff := hF.ll.fp
  have hO2 := hO1.keep k2 (by simp)
  generalize hz : RF tb f_parts_Parts_label _ _ = z
  have hR := hz ▸ r_parts_label (X := (X.hp H2).fr [.cells true [.int .i64 cl, .int .i64 sz]] none) g2 (LAt.field hF k2 (by simp) (by simp)) hs (fr_wf (hp_wf hw) _ _) (by show X.hb ≤ H1.length; omega) (by show kf < H2.length; omega) (fun i hi => by have := hff i hi; show i < H2.length; omega) hO2 (fun hc => by have := hO1.at_.lt _ hc; omega) (by omega) (fun hc => by have := hff _ hc; omega)
  obtain ⟨H3, lv, fv, zv, L, F, Z, num, rt, rfl, q1, q2, q3, q4, q5, q6, q7, q8, q9, q10⟩ := hR
  have q7' : Keep [H1.length] H2 H3 := q7
  have hl3 := q7'.1
  simp (maxDischargeDepth := 8) only [go_sem, hw]
  rw [if_neg (by omega)]
  refine ⟨H3, H1.length, L, F, Z, num, rt, _, rfl, ⟨⟨p, cl, sz, kf, lv, fv, zv, _, q1, q2.lies natF_even, q3.lies cellF_even, q4.lies natF_even⟩, q5.len, by rw [q5.zs, List.length_map, List.length_range], hF.w1, hF.h1⟩, q5, q6, ?_, Nat.le_trans (lab_small q5) ?_⟩
  · rw [hH]; exact (k1'.trans k2).trans' q7' (fun m hm hl => by simp at hm; omega)
  · have w1 := hF.w1
    have w2 := hF.h1
    exact Nat.mul_le_mul (show W.w.toNat ≤ 128 by omega) (show W.h.toNat ≤ 128 by omega)
def W31 : Wd := ⟨3, 1, [0, 3, 0], [], []⟩
theorem new31 : newW 3 1 [0, 3, 0] [] = some W31 := by rfl
theorem good31 : W31.Good := by unfold Wd.Good; decide
theorem st31a : stI W31 0 1 0 = true := by decide +kernel
theorem st31b : stI W31 0 1 1 = false := by decide +kernel
theorem st31c : stI W31 0 1 2 = true := by decide +kernel
/-- The labels of the row with a rock. -/
theorem lab31 {rt : Nat → Nat} {cl : Nat → Int × Int} {L : List Nat} {F : List (Int × Int)} {Z : List Nat} {num : Nat → Nat} (h : Lab 3 (stI W31 0 1) rt cl 3 L F Z num) (hr : ∀ x y, x < 3 → y < 3 → (rt x = rt y ↔ Lnk (EL W31 0 1 3) x y)) : F.length = 2 ∧ L.getD 2 0 = 2 := by
  have noE : ∀ a b, ¬ EL W31 0 1 3 a b := by
    rintro a b ⟨h1, h2, h3, h4⟩
    have hw : W31.w.toNat = 3 := rfl
    rw [hw] at h4
    have : a = 0 ∨ a = 1 ∨ a = 2 := by omega
    rcases this with rfl | rfl | rfl
    · omega
    · rw [st31b] at h2; cases h2
    · have hb : b = 1 := by omega
      subst hb
      rw [st31b] at h3; cases h3
  have hne : rt 0 ≠ rt 2 := fun e => by have := lnk_none noE ((hr 0 2 (by omega) (by omega)).1 e); omega
  have f0 := (h.ca 0 (by omega)).2 st31a
  have f1 := (h.ca 1 (by omega)).1 st31b
  have f2 := (h.ca 2 (by omega)).2 st31c
  have F0 : Fst (stI W31 0 1) (fun x y => rt x = rt y) 0 := ⟨st31a, fun j hj => by omega⟩
  have F1 : ¬ Fst (stI W31 0 1) (fun x y => rt x = rt y) 1 := fun hf => by have := hf.1; rw [st31b] at this; cases this
  have c1 : cntF (stI W31 0 1) (fun x y => rt x = rt y) 1 = 1 := by rw [cntF_fst F0]; rfl
  have c2 : cntF (stI W31 0 1) (fun x y => rt x = rt y) 2 = 1 := by rw [cntF_no F1, c1]
  have g0 : L.getD 0 0 = 1 := by
    rcases f0 with ⟨j, hj, _⟩ | ⟨_, e⟩
    · omega
    · exact e
  have g2 : L.getD 2 0 = 2 := by
    rcases f2 with ⟨j, hj, hs, he, _⟩ | ⟨_, e⟩
    · have : j = 0 ∨ j = 1 := by omega
      rcases this with rfl | rfl
      · exact absurd he hne
      · rw [st31b] at hs; cases hs
    · rw [c2] at e; exact e
  refine ⟨?_, g2⟩
  rw [h.mx]
  have f1' : L.getD 1 0 = 0 := f1
  simp only [mxP, g0, f1', g2]
  decide
theorem r_law08_awake (X : Mem) (hw : X.Wf) (hhb : X.hb ≤ X.hl) : ∃ H' u, RF tb f_law08_awake [] X = some (.bool true, (X.hp H').es (escMin X.esc u)) ∧ Keep [] X.heap H' := by
  rw [RF_go t_law08_awake _ _ rfl, push_hp]
  generalize hH : X.heap = H
  have hHl : X.hl = H.length := by rw [← hH]; rfl
  obtain ⟨H1, hH1⟩ : ∃ H1, H ++ [(0, SBk.cells true [SV.int .u8 0, SV.int .u8 3, SV.int .u8 0])] = H1 := ⟨_, rfl⟩
  have own : Own byteF H1 (.sl (.hp H.length 0) 0 3 (some 3) 1) [0, 3, 0] := by rw [← hH1]; exact own_new byteF_even H [0, 3, 0] (some 3)
  have k1 : Keep [] H H1 := by rw [← hH1]; exact Keep.app _ _ _
  have hn := r_grid_New (X := (X.hp H1).fr [] none) (bl := []) (own.lies byteF_even) (LiesD.nil bldF _) (by decide) (fr_wf (hp_wf hw) _ _) (by show X.hb ≤ H1.length; have := k1.1; omega) 3 1
  rw [new31] at hn
  obtain ⟨H2, u, p, h1, hO, k2, hF⟩ := hn
  change Keep [] H1 H2 at k2
  simp (maxDischargeDepth := 8) only [go_sem, s_law08_awake, hw, hH, hH1, h1]
  generalize hz : RF tb f_parts_New _ _ = z
  have hl1 := k1.1
  have hl2 := k2.1
  obtain ⟨H3, k, L, F, Z, num, rt, u3, rfl, hP, hB, hr, k3, -⟩ := hz ▸ r_parts_New (X := (X.hp H2).fr [] (escMin none u)) hO good31 (fr_wf (hp_wf hw) _ _) (by show X.hb ≤ H2.length; omega) 0 1 (by decide) (by decide) (by decide)
  obtain ⟨e1, e2⟩ := lab31 hB hr
  have k3' : Keep [] H2 H3 := k3
  have hat := fun {Y : Mem} (hY : HpSub (Hm H3) Y) (hwY : Y.Wf) => r_parts_At hP hY hwY 2 0
  rw [show atP W31 L 2 0 = L.getD 2 0 from rfl, e2] at hat
  have hlen := fun {Y : Mem} (hY : HpSub (Hm H3) Y) (hwY : Y.Wf) => r_parts_Len hP hY hwY
  rw [e1] at hlen
  unfold cellV at hat
  simp (maxDischargeDepth := 8) only [go_sem, hw, hat, hlen, show ((0 : Int) == 0) = true from rfl, show ((2 : Int) == 2) = true from rfl]
  exact ⟨_, _, rfl, by rw [← hH] at k1 ⊢; exact ((k1.trans k2).trans k3').back0⟩
theorem aw08 {X : Mem} {z : Option (SV × Mem)} (hz : RF tb f_law08_awake [] X = z) (hw : X.Wf) (hhb : X.hb ≤ X.hl) : ∃ H' u, z = some (.bool true, (X.hp H').es (escMin X.esc u)) ∧ Keep [] X.heap H' := by
  rw [← hz]; exact r_law08_awake X hw hhb
abbrev zPa : List SV := [.nilp, .int .i64 0, .int .i64 0, .int .i64 0, .int .i64 0, .int .i64 0, .int .i64 0, .nilp, .nils, .nils, .nils, .int .i64 0]
/-- Parts that nobody made. -/
def NoP (m : Mem) (v : SV) : Prop := v = .nilp ∨ ∃ k, v = .ptr (.hp k 0) 0 ∧ m.get (.hp k 0) = some (.cells true zPa)
theorem r_is0 {m : Mem} {v : SV} (h : NoP m v) {X : Mem} (hX : HpSub m X) (hw : X.Wf) : RF tb f_parts_Parts_is [v] X = some (.bool false, X) := by
  rw [RF_go t_parts_Parts_is _ _ rfl]
  rcases h with rfl | ⟨k, rfl, hg⟩
  · simp (maxDischargeDepth := 8) only [go_sem, s_parts_Parts_is, hw]
  · have hld : ∀ {Y : Mem}, HpSub m Y → ∀ off n, Y.load (.hp k 0) off n = partv zPa off n := fun hY off n => by rw [load_get, hY _ _ _ hg]
    simp (maxDischargeDepth := 8) only [go_sem, s_parts_Parts_is, hw, hX, hld, zPa]
theorem r_Len0 {m : Mem} {v : SV} (h : NoP m v) {X : Mem} (hX : HpSub m X) (hw : X.Wf) : RF tb f_parts_Parts_Len [v] X = some (.int .i64 0, X) := by
  rw [RF_go t_parts_Parts_Len _ _ rfl]
  simp (maxDischargeDepth := 8) only [go_sem, s_parts_Parts_Len, hw, hX, r_is0 h]
theorem r_Update0 {m : Mem} {v : SV} (h : NoP m v) {X : Mem} (hX : HpSub m X) (hw : X.Wf) : RF tb f_parts_Parts_Update [v] X = some (.tup [.bool false, .int .i64 1], X) := by
  rw [RF_go t_parts_Parts_Update _ _ rfl]
  simp (maxDischargeDepth := 8) only [go_sem, s_parts_Parts_Update, hw, hX, r_is0 h]
theorem r_First0 {m : Mem} {v : SV} (h : NoP m v) {X : Mem} (hX : HpSub m X) (hw : X.Wf) : RF tb f_parts_Parts_First [v, .int .i64 1] X = some (.tup [.agg [.int .i64 0, .int .i64 0], .bool false], X) := by
  rw [RF_go t_parts_Parts_First _ _ rfl]
  simp (maxDischargeDepth := 8) only [go_sem, s_parts_Parts_First, hw, hX, r_Len0 h, show decide ((1 : Int) > 0) = true from by decide]
theorem r_Size0 {m : Mem} {v : SV} (h : NoP m v) {X : Mem} (hX : HpSub m X) (hw : X.Wf) : RF tb f_parts_Parts_Size [v, .int .i64 1] X = some (.int .i64 0, X) := by
  rw [RF_go t_parts_Parts_Size _ _ rfl]
  simp (maxDischargeDepth := 8) only [go_sem, s_parts_Parts_Size, hw, hX, r_Len0 h, show decide ((1 : Int) > 0) = true from by decide]
theorem r_At0 {m : Mem} {v : SV} (h : NoP m v) {X : Mem} (hX : HpSub m X) (hw : X.Wf) (x y : Int) : RF tb f_parts_Parts_At [v, .agg [.int .i64 x, .int .i64 y]] X = some (.int .i64 0, X) := by
  rw [RF_go t_parts_Parts_At _ _ rfl]
  simp (maxDischargeDepth := 8) only [go_sem, s_parts_Parts_At, hw, hX, r_is0 h]
theorem r_Joined0 {m : Mem} {v : SV} (h : NoP m v) {X : Mem} (hX : HpSub m X) (hw : X.Wf) (x y a b : Int) : RF tb f_parts_Parts_Joined [v, .agg [.int .i64 x, .int .i64 y], .agg [.int .i64 a, .int .i64 b]] X = some (.bool false, X) := by
  rw [RF_go t_parts_Parts_Joined _ _ rfl]
  simp (maxDischargeDepth := 8) only [go_sem, s_parts_Parts_Joined, hw, hX, r_At0 h, show decide ((0 : Int) > 0) = false from by decide]
theorem r_law08_PartsNobody (X : Mem) (hw : X.Wf) (hhb : X.hb ≤ X.hl) (x y a b : Int) : ∃ m', RF tb f_law08_PartsNobody [.agg [.int .i64 x, .int .i64 y], .agg [.int .i64 a, .int .i64 b]] X = some (.bool true, m') := by
  rw [RF_go t_law08_PartsNobody _ _ rfl, push_hp]
  generalize hH : X.heap = H
  have hHl : X.hl = H.length := by rw [← hH]; rfl
  have n0 : NoP (Hm []) .nilp := .inl rfl
  have hs0 : ∀ Y : Mem, HpSub (Hm []) Y := fun Y k w x hx => by have h2 : hget [] k w = some x := hx; simp [hget] at h2
  have b01 : ((0 : Int) == 1) = false := by decide
  have b11 : ((1 : Int) == 1) = true := by decide
  have n00 : ((0 : Int) != 0) = false := by decide
  have n11 : ((1 : Int) != 1) = false := by decide
  have w1 : IntKind.wrap .i64 1 = 1 := by decide
  have w2 : IntKind.wrap .i64 2 = 2 := by decide
  simp (maxDischargeDepth := 8) only [go_sem, s_law08_PartsNobody, hw]
  rw [KL_keep _ _ _ (by simp (maxDischargeDepth := 8) only [go_sem])]
  simp (maxDischargeDepth := 8) only [go_sem]
  rw [KL_go]
  simp (maxDischargeDepth := 8) only [go_sem, hw, b01, n00, n11, w1, r_Update0 n0, r_First0 n0, r_At0 n0, r_Len0 n0, r_Size0 n0, r_Joined0 n0, hs0]
  rw [KL_keep _ _ _ (by simp (maxDischargeDepth := 8) only [go_sem])]
  simp (maxDischargeDepth := 8) only [go_sem]
  rw [KL_go]
  obtain ⟨H1, hH1⟩ : ∃ H1, H ++ [(0, SBk.cells true zPa)] = H1 := ⟨_, rfl⟩
  have g1 : hget H1 H.length 0 = some (.cells true zPa) := by rw [← hH1]; exact hget_new0 0 _
  have n1 : NoP (Hm H1) (.ptr (.hp H.length 0) 0) := .inr ⟨_, rfl, g1⟩
  have hH1' : H ++ [(0, SBk.cells true [.nilp, .int .i64 0, .int .i64 0, .int .i64 0, .int .i64 0, .int .i64 0, .int .i64 0, .nilp, .nils, .nils, .nils, .int .i64 0])] = H1 := hH1
  simp (maxDischargeDepth := 8) only [go_sem, hw, b11, n00, n11, w2, hH1', r_Update0 n1, r_First0 n1, r_At0 n1, r_Len0 n1, r_Size0 n1, r_Joined0 n1]
  rw [KL_keep _ _ _ (by simp (maxDischargeDepth := 8) only [go_sem])]
  simp (maxDischargeDepth := 8) only [go_sem]
  rw [KL_go]
  have hl1 : H1.length = H.length + 1 := by rw [← hH1, List.length_append]; rfl
  simp (maxDischargeDepth := 8) only [go_sem, hw]
  generalize hz : RF tb f_law08_awake _ _ = z
  obtain ⟨H', u, rfl, -⟩ := aw08 hz (by simp (maxDischargeDepth := 8) only [go_sem, hw]) (by show X.hb ≤ H1.length; omega)
  simp (maxDischargeDepth := 8) only [go_sem, hw]
  exact ⟨_, rfl⟩
theorem law08_PartsNobody (a b : Int × Int) (ins : In) : ∃ m', RF tb f_law08_PartsNobody [.agg [.int .i64 a.1, .int .i64 a.2], .agg [.int .i64 b.1, .int .i64 b.2]] ins.mem = some (.bool true, m') :=
  r_law08_PartsNobody _ (In.wf _) (Nat.zero_le _) _ _ _ _
end Go.Sh.T
