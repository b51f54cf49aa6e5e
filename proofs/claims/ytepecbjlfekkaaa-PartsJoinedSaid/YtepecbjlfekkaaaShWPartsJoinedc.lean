import Derived.Test.YtepecbjlfekkaaaShWPartsJoinedb
import Derived.Test.YtepecbjlfekkaaaShArg
set_option linter.all false
set_option linter.unusedVariables false
set_option linter.unusedSimpArgs false
set_option autoImplicit false
namespace Go.Sh.T
open Go.Sh
set_option maxHeartbeats 8000000
set_option maxRecDepth 20000
theorem bx_has {x y w h a b : Int} (hm : mayB x y w h = true) : hasB x y w h a b = (Bx.mk x y w h).has (a, b) := by
  rw [Bool.eq_iff_iff, has_iff, Bx.has_iff]
  dsimp only
  exact ⟨fun h => ⟨⟨h.2.1, h.2.2.1⟩, h.2.2.2⟩, fun h => ⟨hm, h.1.1, h.1.2, h.2⟩⟩
/-- What comes back. -/
def CtPost (W : Wd) (cl sz x y w h f1 f2 : Int) (H : Hp) (v' : SV) (H' : Hp) (l : List Int) : Prop :=
  Own iF H' v' l ∧ (∀ i ∈ slFp v', H.length ≤ i) ∧ Keep [] H H' ∧ l.length = (Bx.mk x y w h).n ∧ (∀ v ∈ l, v ≤ 14 * ((Bx.mk x y w h).n : Int)) ∧
      (W.stands cl sz f1 f2 = false → l = List.replicate (Bx.mk x y w h).n (-1)) ∧ (W.stands cl sz f1 f2 = true → CostsOk (okR W cl sz x y w h) (f1, f2) ⟨x, y, w, h⟩ l)
theorem ct_fin {W : Wd} {cl sz x y w h f1 f2 : Int} {X : Mem} {v : SV} {Hc : Hp} {l : List Int} (hp : CtPost W cl sz x y w h f1 f2 X.heap v Hc l) : CtPost W cl sz x y w h f1 f2 X.heap v (if v.hx ≤ X.hl then Hc.take X.hl else Hc) l := by
  obtain ⟨a, b, c, d⟩ := hp
  refine ⟨a.congr fun i hi => ?_, b, c.back1, d⟩
  have h1 := b i hi
  have h2 := hx_fp hi
  rw [if_neg (by show ¬ v.hx ≤ X.heap.length; omega)]
theorem r_ref08_Ground_Costs {X : Mem} {v : SV} {W : Wd} {cl sz : Int} (hv : LiesD boolF (Hm X.heap) v (W.gr cl sz)) (w1 : 1 ≤ W.w ∧ W.w ≤ 128) (w2 : 1 ≤ W.h ∧ W.h ≤ 128) (hw : X.Wf) (hhb : X.hb ≤ X.hl) {x y w h : Int} (hm : mayB x y w h = true) (hx : 0 ≤ x ∧ 1 ≤ w ∧ x + w ≤ 128) (hy : 0 ≤ y ∧ 1 ≤ h ∧ y + h ≤ 128) {f1 f2 : Int} (hf : hasB x y w h f1 f2 = true) :
    ∃ v' H' l, RF tb f_ref08_Ground_Costs [grV W.w W.h v, cellV f1 f2, rect x y w h] X = some (v', X.hp H') ∧ CtPost W cl sz x y w h f1 f2 X.heap v' H' l := by
  rw [RF_go t_ref08_Ground_Costs _ _ rfl, push_hp]
  generalize hH : X.heap = H at *
  have hHl : X.hl = H.length := by rw [← hH]; rfl
  obtain ⟨n, hn⟩ : ∃ n, (Bx.mk x y w h).n = n := ⟨_, rfl⟩
  have hwh : w * h = (n : Int) := by rw [← hn]; show w * h = ((w.toNat * h.toNat : Nat) : Int); rw [Int.natCast_mul, Int.toNat_of_nonneg (by omega), Int.toNat_of_nonneg (by omega)]
  have hn2 : n ≤ 16384 := by rw [← hn]; show w.toNat * h.toNat ≤ 16384; exact Nat.mul_le_mul (show w.toNat ≤ 128 by omega) (show h.toNat ≤ 128 by omega)
  have wn : IntKind.wrap .i64 (w * h) = (n : Int) := by rw [wrap_small (by omega) (by omega), hwh]
  have hv2 : ((8 : Int) * (n : Int) ≤ (two48 : Int)) = True := by simp [two48]; omega
  have hv3 : ((n : Int) < 9223372036854775808) = True := by simp; omega
  have hv4 : ((0 : Int) ≤ (n : Int)) = True := by simp
  have sv := hv.isSl
  obtain ⟨H1, hH1⟩ : ∃ H1, H ++ [(0, SBk.cells true (List.replicate n [SV.int .i64 0]).flatten)] = H1 := ⟨_, rfl⟩
  have own : Own iF H1 (.sl (.hp H.length 0) 0 n (some n) 1) (List.replicate n 0) := by rw [← hH1]; exact mkslV_own iF_even H 0 n
  have k1 : Keep [] H H1 := by rw [← hH1]; exact Keep.app _ _ _
  have fp : ∀ i ∈ slFp (.sl (.hp H.length 0) 0 n (some n) 1), H.length ≤ i := by simp [slFp]
  simp (maxDischargeDepth := 8) only [go_sem, s_ref08_Ground_Costs, cellV, grV, rect, hw, hH, hv.cell, wn, hv.lv, hv2, hv3, hv4, hH1, Int.le_refl]
  generalize (SV.sl (.hp H.length 0) 0 n (some n) 1) = ov at *
  rw [KL_keep _ _ _ (by simp (maxDischargeDepth := 8) only [go_sem, (own.isSl iF_even).l])]
  simp (maxDischargeDepth := 8) only [go_sem]
  refine KL_ind (R := fun z => ∃ v' H' l, fin [.t 6] X z = some (v', X.hp H') ∧ CtPost W cl sz x y w h f1 f2 H v' H' l) (α := Nat × List Int × Hp) (fun q => n - q.1)
    (fun q => [(3, .ptr (.st X.dep 0) 0), (4, .ptr (.st X.dep 1) 0), (5, .ptr (.st X.dep 2) 0), (7, ov), (8, .int .i64 (q.1 : Int))])
    (fun q => (X.hp q.2.2).fr [.cells true [.int .i64 W.w, .int .i64 W.h, v], .cells true [.int .i64 f1, .int .i64 f2], .cells true [.int .i64 x, .int .i64 y, .int .i64 w, .int .i64 h]] none)
    (fun q => q.1 ≤ n ∧ Own iF q.2.2 ov q.2.1 ∧ q.2.1.length = n ∧ (∀ j, j < q.1 → q.2.1[j]? = some (-1)) ∧ Keep [] H q.2.2) ?_ (0, List.replicate n 0, H1) ⟨Nat.zero_le _, own, by simp, by simp, k1⟩
  clear own k1 hH1
  rintro ⟨i, l, Hc⟩ ⟨hi, ow, hlen, hj, kc⟩ ih
  dsimp only at hi ow hlen hj kc ⊢
  have so := ow.isSl iF_even
  have lo := ow.lies iF_even
  have hbo : ∀ i ∈ slFp ov, X.hb ≤ i := fun i hi => by have := fp i hi; omega
  have kS : Keep (slFp ov) H Hc → Keep [] H Hc := fun k => k.trans' (Keep.refl (slFp ov) _) (fun m hm hl => by have := fp m hm; have := k.1; omega) |>.weak (fun m hm hl => by have := fp m hm; omega)
  simp (maxDischargeDepth := 8) only [go_sem, hw, so.l, lo.len, hlen]
  by_cases hlt : i < n
  · obtain ⟨H2, st, o2, k2, l2⟩ := storeI ow (i := i) (by omega) X hbo (-1)
    simp (maxDischargeDepth := 8) only [go_sem, show decide ((i : Int) < (n : Int)) = true from decide_eq_true (by omega), hw, so.l, LiesD.iaddrI lo (i := (i : Int)) (by omega) (by omega), Int.toNat_natCast, st, wrap_succ (show i ≤ 4611686018427387903 by omega)]
    rw [KL_keep _ _ _ (by simp (maxDischargeDepth := 8) only [go_sem, so.l])]
    simp (maxDischargeDepth := 8) only [go_sem]
    refine ih (i + 1, l.set i (-1), H2) ⟨by dsimp only; omega, o2, by rw [List.length_set]; exact hlen, fun j hj2 => ?_, kc.trans' k2 (fun m hm hl => by have := fp m hm; omega)⟩ (by dsimp only; omega)
    dsimp only at hj2 ⊢
    rw [List.getElem?_set]
    by_cases e : i = j
    · rw [if_pos e, if_pos (by omega)]
    · rw [if_neg e]; exact hj j (by omega)
  · have ein : n = i := by omega
    subst ein
    clear ih
    have hrep : l = List.replicate n (-1) := by
      apply List.ext_getElem?
      intro j
      by_cases h1 : j < n
      · rw [hj j h1, List.getElem?_replicate, if_pos h1]
      · rw [List.getElem?_eq_none (by omega), List.getElem?_eq_none (by simp; omega)]
    have hvc : LiesD boolF (Hm Hc) v (W.gr cl sz) := hv.sub kc.sub
    simp (maxDischargeDepth := 8) only [go_sem, show decide ((n : Int) < (n : Int)) = false from decide_eq_false (by omega), hw, so.l, r_ref08_Ground_Stands hvc w1 w2, r_ref03_Has]
    cases hst : W.stands cl sz f1 f2 with
    | false =>
      simp (maxDischargeDepth := 8) only [go_sem, hw, so.l, so.c, so.k, so.o]
      subst hH
      exact ⟨_, _, _, rfl, ct_fin ⟨ow, fp, kc, by rw [hlen, hn], fun v hv => by rw [hrep] at hv; have := List.eq_of_mem_replicate hv; omega, fun _ => by rw [hrep, hn], fun h => by rw [hst] at h; cases h⟩⟩
    | true =>
      have hrs : (Bx.mk x y w h).has (f1, f2) = true := by rw [← bx_has hm]; exact hf
      obtain ⟨e1, e2, e3, e4⟩ := Bx.ix_lt hrs
      have hfb := Bx.has_iff.1 hrs
      dsimp only at e3 hfb
      obtain ⟨kx, hkx⟩ : ∃ kx, (Bx.mk x y w h).ix (f1, f2) = kx := ⟨_, rfl⟩
      rw [hkx] at e1 e3
      rw [hn] at e1
      have hmul : 0 ≤ (f2 - y) * w ∧ (f2 - y) * w ≤ 16384 := by
        refine ⟨Int.mul_nonneg (by omega) (by omega), ?_⟩
        have h1 : (f2 - y) * w ≤ 128 * w := Int.mul_le_mul_of_nonneg_right (by omega) (by omega)
        omega
      obtain ⟨H2, st, o2, k2, l2⟩ := storeI ow (i := kx) (by omega) X hbo 0
      have hIv := binv_new (ok := okR W cl sz x y w h) hrs
      rw [hn, hkx] at hIv
      rw [hrep] at o2
      simp (maxDischargeDepth := 8) only [go_sem, hw, so.l, so.c, so.k, so.o, r_ref03_Has, hf, wrap_small (x := f2 - y) (by omega) (by omega), wrap_small (x := (f2 - y) * w) (by omega) (by omega), wrap_small (x := (f2 - y) * w + f1) (by omega) (by omega), show (f2 - y) * w + f1 - x = (kx : Int) by omega, wrap_small (x := (kx : Int)) (by omega) (by omega), LiesD.iaddrI lo (i := (kx : Int)) (by omega) (by omega), Int.toNat_natCast, st]
      rw [KL_keep _ _ _ (by simp (maxDischargeDepth := 8) only [go_sem, so.l])]
      simp (maxDischargeDepth := 8) only [go_sem]
      refine KL_ind (R := fun z => ∃ v' H' l, fin [.t 6] X z = some (v', X.hp H') ∧ CtPost W cl sz x y w h f1 f2 H v' H' l) (α := Bool × List Int × Hp) (fun q => 2 * potL n q.2.1 + (if q.1 then 1 else 0))
        (fun q => [(3, .ptr (.st X.dep 0) 0), (5, .ptr (.st X.dep 2) 0), (7, ov), (9, .bool q.1)])
        (fun q => (X.hp q.2.2).fr [.cells true [.int .i64 W.w, .int .i64 W.h, v], .cells true [.int .i64 f1, .int .i64 f2], .cells true [.int .i64 x, .int .i64 y, .int .i64 w, .int .i64 h]] none)
        (fun q => Own iF q.2.2 ov q.2.1 ∧ Keep [] H q.2.2 ∧ BInv (okR W cl sz x y w h) (f1, f2) ⟨x, y, w, h⟩ q.2.1 ∧ (q.1 = false → ∀ i, i < n → ∀ d, isDir d = true → Rlx (okR W cl sz x y w h) ⟨x, y, w, h⟩ q.2.1 i d)) ?_ (true, (List.replicate n (-1)).set kx 0, H2) ⟨o2, kc.trans' k2 (fun m hm hl => by have := fp m hm; omega), hIv, fun h => (by cases h)⟩
      clear o2 k2 hIv st ow lo kc hvc hj hrep hlen
      rintro ⟨tn, l, Hc⟩ ⟨ow, kc, I, hR⟩ ih
      dsimp only at ow kc I hR ⊢
      have hdk : ∀ c d, okR W cl sz x y w h c d = true → isDir d = true ∧ (Bx.mk x y w h).has c = true ∧ (Bx.mk x y w h).has (mvC c d) = true := fun c d hk => by
        have h1 := (edg_ok W cl sz (fun c => hasB x y w h c.1 c.2)).dir c d hk
        simp only [okR, okS, Bool.and_eq_true] at hk
        have h2 := hk.1.1
        have h3 := hk.2
        rw [bx_has hm] at h2 h3
        exact ⟨h1, h2, h3⟩
      have lo := ow.lies iF_even
      have hlen : l.length = n := by rw [I.len, hn]
      cases tn with
      | false =>
        simp (maxDischargeDepth := 8) only [go_sem, hw, so.l, so.c, so.k, so.o]
        subst hH
        exact ⟨_, _, _, rfl, ct_fin ⟨ow, fp, kc, by rw [hlen, hn], fun v hv => by have h1 := I.bd v hv; have h2 := cntL_le l; omega, fun h => absurd (hst.symm.trans h) (by simp), fun _ => I.done hdk hrs fun i hi d hd => hR rfl i (by rw [← hn]; exact hi) d hd⟩⟩
      | true =>
        simp (maxDischargeDepth := 8) only [go_sem, hw, so.l, so.c, so.k, so.o]
        rw [KL_keep _ _ _ (by simp (maxDischargeDepth := 8) only [go_sem, so.l])]
        simp (maxDischargeDepth := 8) only [go_sem]
        refine KL_ind (R := fun z => ∃ v' H' l, fin [.t 6] X z = some (v', X.hp H') ∧ CtPost W cl sz x y w h f1 f2 H v' H' l) (α := Nat × Bool × List Int × Hp) (fun q => n - q.1)
          (fun q => [(3, .ptr (.st X.dep 0) 0), (5, .ptr (.st X.dep 2) 0), (7, ov), (9, .bool q.2.1), (10, .int .i64 (q.1 : Int))])
          (fun q => (X.hp q.2.2.2).fr [.cells true [.int .i64 W.w, .int .i64 W.h, v], .cells true [.int .i64 f1, .int .i64 f2], .cells true [.int .i64 x, .int .i64 y, .int .i64 w, .int .i64 h]] none)
          (fun q => q.1 ≤ n ∧ Own iF q.2.2.2 ov q.2.2.1 ∧ Keep [] H q.2.2.2 ∧ BInv (okR W cl sz x y w h) (f1, f2) ⟨x, y, w, h⟩ q.2.2.1 ∧ (q.2.1 = false → q.2.2.1 = l ∧ ∀ i, i < q.1 → ∀ d, isDir d = true → Rlx (okR W cl sz x y w h) ⟨x, y, w, h⟩ q.2.2.1 i d) ∧ (q.2.1 = true → potL n q.2.2.1 < potL n l)) ?_ (0, false, l, Hc) ⟨Nat.zero_le _, ow, kc, I, fun _ => ⟨rfl, fun i hi => by omega⟩, fun h => (by cases h)⟩
        clear hR ow kc I lo hlen
        rintro ⟨i, t, l', Hd⟩ ⟨hi, ow, kc, I, hF, hT⟩ ih2
        dsimp only at hi ow kc I hF hT ⊢
        have lo := ow.lies iF_even
        have hlen : l'.length = n := by rw [I.len, hn]
        simp (maxDischargeDepth := 8) only [go_sem, hw, so.l, lo.len, hlen]
        by_cases hlt : i < n
        · have hatb := Bx.at_has (r := Bx.mk x y w h) (i := i) (by rw [hn]; exact hlt)
          have hwt : w = (w.toNat : Int) := by omega
          have hw0 : (w = 0) = False := by simp; omega
          have hmod : (i : Int).tmod w = ((i % w.toNat : Nat) : Int) := by rw [hwt, Int.tmod_eq_emod_of_nonneg (by omega)]; simp
          have hdiv : (i : Int).tdiv w = ((i / w.toNat : Nat) : Int) := by rw [hwt, Int.tdiv_eq_ediv_of_nonneg (by omega)]; simp
          have hm1 : i % w.toNat < w.toNat := Nat.mod_lt _ (by omega)
          have hm2 : i / w.toNat < h.toNat := by rw [Nat.div_lt_iff_lt_mul (by omega), Nat.mul_comm]; rw [← hn] at hlt; exact hlt
          obtain ⟨a, ha⟩ : ∃ a : Int, x + ((i % w.toNat : Nat) : Int) = a := ⟨_, rfl⟩
          obtain ⟨b, hb⟩ : ∃ b : Int, y + ((i / w.toNat : Nat) : Int) = b := ⟨_, rfl⟩
          have hab : (Bx.mk x y w h).at i = (a, b) := by unfold Bx.at; dsimp only; rw [ha, hb]
          rw [hab] at hatb
          generalize i % w.toNat = q1 at hmod hm1 ha
          generalize i / w.toNat = q2 at hdiv hm2 hb
          simp (maxDischargeDepth := 8) only [go_sem, show decide ((i : Int) < (n : Int)) = true from decide_eq_true (by omega), hw, so.l, hw0, hmod, hdiv, ha, hb, wrap_small (x := a) (by omega) (by omega), wrap_small (x := b) (by omega) (by omega), wrap_small (x := ((q2 : Nat) : Int)) (by omega) (by omega)]
          rw [KL_keep _ _ _ (by simp (maxDischargeDepth := 8) only [go_sem, so.l])]
          simp (maxDischargeDepth := 8) only [go_sem]
          refine KL_ind (R := fun z => ∃ v' H' l, fin [.t 6] X z = some (v', X.hp H') ∧ CtPost W cl sz x y w h f1 f2 H v' H' l) (α := Nat × Bool × List Int × Hp) (fun q => 9 - q.1)
            (fun q => [(3, .ptr (.st X.dep 0) 0), (5, .ptr (.st X.dep 2) 0), (7, ov), (9, .bool q.2.1), (10, .int .i64 (i : Int)), (11, .ptr (.st X.dep 3) 0), (12, .int .i64 (q.1 : Int))])
            (fun q => (X.hp q.2.2.2).fr [.cells true [.int .i64 W.w, .int .i64 W.h, v], .cells true [.int .i64 f1, .int .i64 f2], .cells true [.int .i64 x, .int .i64 y, .int .i64 w, .int .i64 h], .cells true [.int .i64 a, .int .i64 b]] none)
            (fun q => q.1 ≤ 8 ∧ Own iF q.2.2.2 ov q.2.2.1 ∧ Keep [] H q.2.2.2 ∧ BInv (okR W cl sz x y w h) (f1, f2) ⟨x, y, w, h⟩ q.2.2.1 ∧ (q.2.1 = false → q.2.2.1 = l ∧ (∀ i', i' < i → ∀ d, isDir d = true → Rlx (okR W cl sz x y w h) ⟨x, y, w, h⟩ q.2.2.1 i' d) ∧ ∀ d, isDir d = true → d < (q.1 : Int) → Rlx (okR W cl sz x y w h) ⟨x, y, w, h⟩ q.2.2.1 i d) ∧ (q.2.1 = true → potL n q.2.2.1 < potL n l)) ?_ (0, t, l', Hd) ⟨Nat.zero_le _, ow, kc, I, fun h => ⟨(hF h).1, (hF h).2, fun d hd1 hd2 => by simp [isDir] at hd1; dsimp only at hd2; omega⟩, hT⟩
          clear hF hT ow kc I lo hlen
          rintro ⟨d, t, l', He⟩ ⟨hd8, ow, kc, I, hF, hT⟩ ih3
          dsimp only at hd8 ow kc I hF hT ⊢
          have lo := ow.lies iF_even
          have hlen : l'.length = n := by rw [I.len, hn]
          obtain ⟨vi, hvi⟩ : ∃ vi, l'[i]? = some vi := ⟨_, List.getElem?_eq_getElem (by omega)⟩
          have hbd := I.bd vi (List.mem_of_getElem? hvi)
          have hlov := I.lo vi (List.mem_of_getElem? hvi)
          have hcn := cntL_le l'
          have ia := LiesD.iaddrI lo (i := (i : Int)) (by omega) (by omega)
          simp only [Int.toNat_natCast] at ia
          have go2 : (t = false → l' = l ∧ (∀ i', i' < i + 1 → ∀ d, isDir d = true → Rlx (okR W cl sz x y w h) ⟨x, y, w, h⟩ l' i' d)) → ∃ v' H' l, fin [.t 6] X (KL tb [KI.block 4, KI.block 3, KI.loop 3 (some [3, 5, 7, 9]) s_ref08_Ground_Costs_p25, KI.block 2, KI.kp [7], KI.seq ((SCode.region false [{ dst := some 151, op := SOp.mv (Opd.t 7), guard := none, quiet := false }, { dst := some 6, op := SOp.mv (Opd.t 151), guard := none, quiet := false }]).seq SCode.ret)] 3 (some [3, 5, 7, 9, 10]) s_ref08_Ground_Costs_p23
              [(3, .ptr (.st X.dep 0) 0), (5, .ptr (.st X.dep 2) 0), (7, ov), (9, .bool t), (10, .int .i64 ((i + 1 : Nat) : Int))]
              ((X.hp He).fr [.cells true [.int .i64 W.w, .int .i64 W.h, v], .cells true [.int .i64 f1, .int .i64 f2], .cells true [.int .i64 x, .int .i64 y, .int .i64 w, .int .i64 h]] none)) = some (v', X.hp H') ∧ CtPost W cl sz x y w h f1 f2 H v' H' l := fun hq =>
            ih2 (i + 1, t, l', He) ⟨by dsimp only; omega, ow, kc, I, hq, hT⟩ (by dsimp only; omega)
          have hvc := hv.sub kc.sub
          have exit2 : (t = false → ∀ d', isDir d' = true → Rlx (okR W cl sz x y w h) ⟨x, y, w, h⟩ l' i d') → t = false → l' = l ∧ (∀ i', i' < i + 1 → ∀ d, isDir d = true → Rlx (okR W cl sz x y w h) ⟨x, y, w, h⟩ l' i' d) := fun hq ht => ⟨(hF ht).1, fun i' hi' d' hd' => by
            by_cases e : i' = i
            · subst e; exact hq ht d' hd'
            · exact (hF ht).2.1 i' (by omega) d' hd'⟩
          have next3 : (t = false → isDir (d : Int) = true → Rlx (okR W cl sz x y w h) ⟨x, y, w, h⟩ l' i (d : Int)) → t = false → l' = l ∧ (∀ i', i' < i → ∀ d, isDir d = true → Rlx (okR W cl sz x y w h) ⟨x, y, w, h⟩ l' i' d) ∧ ∀ d', isDir d' = true → d' < ((d + 1 : Nat) : Int) → Rlx (okR W cl sz x y w h) ⟨x, y, w, h⟩ l' i d' := fun hq ht => ⟨(hF ht).1, (hF ht).2.1, fun d' h1 h2 => by
            by_cases e : d' = (d : Int)
            · subst e; exact hq ht h1
            · exact (hF ht).2.2 d' h1 (by omega)⟩
          simp (maxDischargeDepth := 8) only [go_sem, hw, so.l, ia, lo.loadI hvi]
          by_cases hv0 : 0 ≤ vi
          · simp (maxDischargeDepth := 8) only [go_sem, show decide (vi ≥ 0) = true from decide_eq_true hv0, hw, so.l]
            by_cases hd : d < 8
            · have hst8 := fun {Y : Mem} (hX : HpSub (Hm He) Y) (hwY : Y.Wf) (x y d : Int) => r_ref08_Ground_Steps hvc w1 w2 (cl := cl) (sz := sz) hX hwY x y d
              have hokd : okR W cl sz x y w h (a, b) (d : Int) = (W.steps cl sz a b d && hasB x y w h (a + turnX d) (b + turnY d)) := by
                have h1 := hatb.1
                rw [← bx_has hm] at h1
                simp only [okR, okS, mvC, h1, Bool.true_and]
              cases hs : W.steps cl sz a b d with
              | false =>
                simp (maxDischargeDepth := 8) only [go_sem, show decide ((d : Int) < 8) = true from decide_eq_true (by omega), hw, so.l, hst8, hs, wrap_succ (show d ≤ 4611686018427387903 by omega)]
                rw [KL_keep _ _ _ (by simp (maxDischargeDepth := 8) only [go_sem, so.l])]
                simp (maxDischargeDepth := 8) only [go_sem]
                refine ih3 (d + 1, t, l', He) ⟨by dsimp only; omega, ow, kc, I, next3 (fun _ _ => ?_), hT⟩ (by dsimp only; omega)
                intro v1 _ _ hk
                rw [hab, hokd, hs, Bool.false_and] at hk
                cases hk
              | true =>
                cases hh2 : hasB x y w h (a + turnX d) (b + turnY d) with
                | false =>
                  simp (maxDischargeDepth := 8) only [go_sem, show decide ((d : Int) < 8) = true from decide_eq_true (by omega), hw, so.l, hst8, hs, r_ref03_Has, hh2, wrap_succ (show d ≤ 4611686018427387903 by omega)]
                  rw [KL_keep _ _ _ (by simp (maxDischargeDepth := 8) only [go_sem, so.l])]
                  simp (maxDischargeDepth := 8) only [go_sem]
                  refine ih3 (d + 1, t, l', He) ⟨by dsimp only; omega, ow, kc, I, next3 (fun _ _ => ?_), hT⟩ (by dsimp only; omega)
                  intro v1 _ _ hk
                  rw [hab, hokd, hh2, Bool.and_false] at hk
                  cases hk
                | true =>
                  have hk : okR W cl sz x y w h (a, b) (d : Int) = true := by rw [hokd, hs, hh2]; rfl
                  have hrk : (Bx.mk x y w h).has (a + turnX d, b + turnY d) = true := by rw [← bx_has hm]; exact hh2
                  obtain ⟨p1, p2, p3, p4⟩ := Bx.ix_lt hrk
                  have hfb2 := Bx.has_iff.1 hrk
                  dsimp only at p3 hfb2
                  obtain ⟨kx, hkx⟩ : ∃ kx, (Bx.mk x y w h).ix (a + turnX d, b + turnY d) = kx := ⟨_, rfl⟩
                  rw [hkx] at p1 p3
                  rw [hn] at p1
                  have hmul : 0 ≤ (b + turnY d - y) * w ∧ (b + turnY d - y) * w ≤ 16384 := by
                    refine ⟨Int.mul_nonneg (by omega) (by omega), ?_⟩
                    have h1 : (b + turnY d - y) * w ≤ 128 * w := Int.mul_le_mul_of_nonneg_right (by omega) (by omega)
                    omega
                  obtain ⟨vk, hvk⟩ : ∃ vk, l'[kx]? = some vk := ⟨_, List.getElem?_eq_getElem (by omega)⟩
                  have ik := LiesD.iaddrI lo (i := (kx : Int)) (by omega) (by omega)
                  simp only [Int.toNat_natCast] at ik
                  have hcd := cost_pos (hdk _ _ hk).1
                  have wv : IntKind.wrap .i64 (vi + costP d) = vi + costP d := wrap_small (by omega) (by omega)
                  simp (maxDischargeDepth := 8) only [go_sem, show decide ((d : Int) < 8) = true from decide_eq_true (by omega), hw, so.l, hst8, hs, r_ref03_Has, hh2, wrap_small (x := b + turnY d - y) (by omega) (by omega), wrap_small (x := (b + turnY d - y) * w) (by omega) (by omega), wrap_small (x := (b + turnY d - y) * w + (a + turnX d)) (by omega) (by omega), show (b + turnY d - y) * w + (a + turnX d) - x = (kx : Int) by omega, wrap_small (x := (kx : Int)) (by omega) (by omega), ia, lo.loadI hvi, r_ref03_Cost, wv, ik, lo.loadI hvk]
                  have turn : vk < 0 ∨ vi + costP d < vk → ∃ H2, (∀ f e, ((X.hp He).fr f e).store (.hp (slN ov) (slW ov)) (slO ov + kx) [.int .i64 (vi + costP d)] = some ((X.hp H2).fr f e)) ∧ ∃ v' H' l, fin [.t 6] X (KL tb [KI.block 6, KI.block 5, KI.kp [3, 5, 7, 9, 10], KI.seq (SCode.region false [{ dst := some 66, op := SOp.mv (Opd.t 10), guard := none, quiet := false }, { dst := some 67, op := SOp.bin BinOp.add (Opd.t 66) (Opd.v (SV.int IntKind.i64 1)), guard := none, quiet := false }, { dst := some 10, op := SOp.mv (Opd.t 67), guard := none, quiet := false }]), KI.loop 3 (some [3, 5, 7, 9, 10]) s_ref08_Ground_Costs_p23, KI.block 4, KI.block 3, KI.loop 3 (some [3, 5, 7, 9]) s_ref08_Ground_Costs_p25, KI.block 2, KI.kp [7], KI.seq ((SCode.region false [{ dst := some 151, op := SOp.mv (Opd.t 7), guard := none, quiet := false }, { dst := some 6, op := SOp.mv (Opd.t 151), guard := none, quiet := false }]).seq SCode.ret)]
                      4 (some [3, 5, 7, 9, 10, 11, 12]) s_ref08_Ground_Costs_p20 [(3, .ptr (.st X.dep 0) 0), (5, .ptr (.st X.dep 2) 0), (7, ov), (9, .bool true), (10, .int .i64 (i : Int)), (11, .ptr (.st X.dep 3) 0), (12, .int .i64 ((d + 1 : Nat) : Int))]
                      ((X.hp H2).fr [.cells true [.int .i64 W.w, .int .i64 W.h, v], .cells true [.int .i64 f1, .int .i64 f2], .cells true [.int .i64 x, .int .i64 y, .int .i64 w, .int .i64 h], .cells true [.int .i64 a, .int .i64 b]] none)) = some (v', X.hp H') ∧ CtPost W cl sz x y w h f1 f2 H v' H' l := fun hcond => by
                    obtain ⟨H2, st, o2, k2, l2⟩ := storeI ow (i := kx) (by omega) X hbo (vi + costP d)
                    obtain ⟨I2, hpot⟩ := I.relax hdk (i := i) (by rw [hn]; exact hlt) (d := d) (v := vi) (x := vk) hvi hv0 (by rw [hab]; exact hk) (by rw [hab]; show l'[(Bx.mk x y w h).ix (a + turnX d, b + turnY d)]? = _; rw [hkx]; exact hvk) hcond
                    rw [hab] at I2 hpot
                    change BInv _ _ _ (l'.set ((Bx.mk x y w h).ix (a + turnX d, b + turnY d)) _) at I2
                    change potL _ (l'.set ((Bx.mk x y w h).ix (a + turnX d, b + turnY d)) _) < _ at hpot
                    rw [hkx] at I2 hpot
                    rw [hn] at hpot
                    refine ⟨H2, st, ih3 (d + 1, true, l'.set kx (vi + costP d), H2) ⟨by dsimp only; omega, o2, kc.trans' k2 (fun m hm hl => by have := fp m hm; omega), I2, fun h => (by cases h), fun _ => ?_⟩ (by dsimp only; omega)⟩
                    dsimp only
                    cases t with
                    | false => rw [← (hF rfl).1]; exact hpot
                    | true => exact Nat.lt_trans hpot (hT rfl)
                  by_cases hv1 : vk < 0
                  · obtain ⟨H2, st, g⟩ := turn (.inl hv1)
                    simp (maxDischargeDepth := 8) only [go_sem, show decide (vk < 0) = true from decide_eq_true hv1, hw, so.l, ik, st, wrap_succ (show d ≤ 4611686018427387903 by omega)]
                    rw [KL_keep _ _ _ (by simp (maxDischargeDepth := 8) only [go_sem, so.l])]
                    simp (maxDischargeDepth := 8) only [go_sem]
                    exact g
                  · by_cases hv2 : vi + costP d < vk
                    · obtain ⟨H2, st, g⟩ := turn (.inr hv2)
                      simp (maxDischargeDepth := 8) only [go_sem, show decide (vk < 0) = false from decide_eq_false hv1, hw, so.l, ik, lo.loadI hvk]
                      simp (maxDischargeDepth := 8) only [go_sem, show decide (vi + costP d < vk) = true from decide_eq_true hv2, hw, so.l, ik, st, wrap_succ (show d ≤ 4611686018427387903 by omega)]
                      rw [KL_keep _ _ _ (by simp (maxDischargeDepth := 8) only [go_sem, so.l])]
                      simp (maxDischargeDepth := 8) only [go_sem]
                      exact g
                    · simp (maxDischargeDepth := 8) only [go_sem, show decide (vk < 0) = false from decide_eq_false hv1, hw, so.l, ik, lo.loadI hvk]
                      simp (maxDischargeDepth := 8) only [go_sem, show decide (vi + costP d < vk) = false from decide_eq_false hv2, hw, so.l, wrap_succ (show d ≤ 4611686018427387903 by omega)]
                      rw [KL_keep _ _ _ (by simp (maxDischargeDepth := 8) only [go_sem, so.l])]
                      simp (maxDischargeDepth := 8) only [go_sem]
                      refine ih3 (d + 1, t, l', He) ⟨by dsimp only; omega, ow, kc, I, next3 (fun _ _ => ?_), hT⟩ (by dsimp only; omega)
                      intro v1 h1 _ _
                      rw [hvi] at h1; cases h1
                      rw [hab]
                      exact ⟨vk, by show l'[(Bx.mk x y w h).ix (a + turnX d, b + turnY d)]? = _; rw [hkx]; exact hvk, by omega, by omega⟩
            · simp (maxDischargeDepth := 8) only [go_sem, show decide ((d : Int) < 8) = false from decide_eq_false (by omega), hw, so.l, wrap_succ (show i ≤ 4611686018427387903 by omega)]
              rw [KL_keep _ _ _ (by simp (maxDischargeDepth := 8) only [go_sem, so.l])]
              simp (maxDischargeDepth := 8) only [go_sem]
              exact go2 (exit2 fun ht d' hd' => (hF ht).2.2 d' hd' (by simp [isDir] at hd'; omega))
          · simp (maxDischargeDepth := 8) only [go_sem, show decide (vi ≥ 0) = false from decide_eq_false hv0, hw, so.l, wrap_succ (show i ≤ 4611686018427387903 by omega)]
            rw [KL_keep _ _ _ (by simp (maxDischargeDepth := 8) only [go_sem, so.l])]
            simp (maxDischargeDepth := 8) only [go_sem]
            exact go2 (exit2 fun _ d' _ v1 h1 h2 _ => by rw [hvi] at h1; cases h1; exact absurd h2 hv0)
        · have ein : n = i := by omega
          subst ein
          simp (maxDischargeDepth := 8) only [go_sem, show decide ((n : Int) < (n : Int)) = false from decide_eq_false (by omega), hw, so.l]
          rw [KL_keep _ _ _ (by simp (maxDischargeDepth := 8) only [go_sem, so.l])]
          simp (maxDischargeDepth := 8) only [go_sem]
          refine ih (t, l', Hd) ⟨ow, kc, I, fun h i hi d hd => (hF h).2 i hi d hd⟩ ?_
          dsimp only
          cases t with
          | false => rw [(hF rfl).1]; simp
          | true => have := hT rfl; simp; omega
theorem meet_box {x y w h ww hh : Int} (w1 : 1 ≤ ww ∧ ww ≤ 128) (w2 : 1 ≤ hh ∧ hh ≤ 128) (hm : meetB x y w h 0 0 ww hh = true) :
    ∃ mx my mw mh, meetV x y w h 0 0 ww hh = rect mx my mw mh ∧ mayB mx my mw mh = true ∧ (0 ≤ mx ∧ 1 ≤ mw ∧ mx + mw ≤ 128) ∧ (0 ≤ my ∧ 1 ≤ mh ∧ my + mh ≤ 128) ∧ ∀ a b, hasB mx my mw mh a b = (hasB x y w h a b && hasB 0 0 ww hh a b) := by
  have hm' := hm
  simp only [meetB, Bool.and_eq_true, decide_eq_true_eq] at hm'
  obtain ⟨⟨m1, m2⟩, m3, m4⟩ := hm'
  obtain ⟨a1, a2, a3, a4⟩ := may_in m1
  obtain ⟨b1, b2, b3, b4⟩ := may_in m2
  have l1 := may_last m1
  have l2 := may_last m2
  rw [meet_yes hm, wl1 (mn_in a3 b3) (mx_in a1 b1), wl1 (mn_in a4 b4) (mx_in a2 b2)]
  rw [l1.1, l2.1] at m3
  rw [l1.2, l2.2] at m4
  rw [l1.1, l2.1, l1.2, l2.2]
  have e1 : ∀ p q : Int, (mxI p q = p ∨ mxI p q = q) ∧ p ≤ mxI p q ∧ q ≤ mxI p q := fun p q => by unfold mxI; split <;> omega
  have e2 : ∀ p q : Int, (mnI p q = p ∨ mnI p q = q) ∧ mnI p q ≤ p ∧ mnI p q ≤ q := fun p q => by unfold mnI; split <;> omega
  have f1 := e1 x 0
  have f2 := e1 y 0
  have g1 := e2 (x + w - 1) (0 + ww - 1)
  have g2 := e2 (y + h - 1) (0 + hh - 1)
  generalize mxI x 0 = mx at *
  generalize mxI y 0 = my at *
  generalize mnI (x + w - 1) (0 + ww - 1) = nx at *
  generalize mnI (y + h - 1) (0 + hh - 1) = ny at *
  have hmay : mayB mx my (nx - mx + 1) (ny - my + 1) = true := by
    have q1 : lastX mx (nx - mx + 1) = nx := by unfold lastX; rw [wrap_small (x := mx + (nx - mx + 1)) (by omega) (by omega), wrap_small (by omega) (by omega)]; omega
    have q2 : lastX my (ny - my + 1) = ny := by unfold lastX; rw [wrap_small (x := my + (ny - my + 1)) (by omega) (by omega), wrap_small (by omega) (by omega)]; omega
    simp only [mayB, nearC, nearP, sideB, q1, q2, Bool.and_eq_true, decide_eq_true_eq]
    omega
  refine ⟨mx, my, nx - mx + 1, ny - my + 1, rfl, hmay, by omega, by omega, fun a b => ?_⟩
  rw [Bool.eq_iff_iff, Bool.and_eq_true, has_iff, has_iff, has_iff]
  simp only [hmay, m1, m2, true_and]
  omega
theorem r_ref08_at {m : Mem} {v : SV} {l : List Int} (hl : LiesD iF m v l) {x y w h a b vk : Int} (hx : 0 ≤ x ∧ 1 ≤ w ∧ x + w ≤ 128) (hy : 0 ≤ y ∧ 1 ≤ h ∧ y + h ≤ 128) (hlen : l.length = (Bx.mk x y w h).n) (hr : (Bx.mk x y w h).has (a, b) = true) (hvk : l[(Bx.mk x y w h).ix (a, b)]? = some vk) {X : Mem} (hX : HpSub m X) (hw : X.Wf) :
    RF tb f_ref08_at [v, rect x y w h, cellV a b] X = some (.int .i64 vk, X) := by
  obtain ⟨p1, p2, p3, p4⟩ := Bx.ix_lt hr
  have hfb2 := Bx.has_iff.1 hr
  dsimp only at p3 hfb2
  have hn2 : (Bx.mk x y w h).n ≤ 16384 := by show w.toNat * h.toNat ≤ 16384; exact Nat.mul_le_mul (show w.toNat ≤ 128 by omega) (show h.toNat ≤ 128 by omega)
  generalize (Bx.mk x y w h).ix (a, b) = kx at *
  have hmul : 0 ≤ (b - y) * w ∧ (b - y) * w ≤ 16384 := by
    refine ⟨Int.mul_nonneg (by omega) (by omega), ?_⟩
    have h1 : (b - y) * w ≤ 128 * w := Int.mul_le_mul_of_nonneg_right (by omega) (by omega)
    omega
  have hkl : kx < l.length := by omega
  have ik := LiesD.iaddrI hl (i := (kx : Int)) (by omega) (by omega)
  simp only [Int.toNat_natCast] at ik
  have sv := hl.isSl
  rw [RF_go t_ref08_at _ _ rfl]
  simp (maxDischargeDepth := 8) only [go_sem, s_ref08_at, cellV, rect, hw, hX, sv.l, wrap_small (x := b - y) (by omega) (by omega), wrap_small (x := (b - y) * w) (by omega) (by omega), wrap_small (x := (b - y) * w + a) (by omega) (by omega), show (b - y) * w + a - x = (kx : Int) by omega, wrap_small (x := (kx : Int)) (by omega) (by omega), ik, hl.loadI hvk]
theorem meet_of_has {x y w h ww hh a b : Int} (h1 : hasB x y w h a b = true) (h2 : hasB 0 0 ww hh a b = true) : meetB x y w h 0 0 ww hh = true := by
  have g1 := has_iff.1 h1
  have g2 := has_iff.1 h2
  have l1 := may_last g1.1
  have l2 := may_last g2.1
  simp only [meetB, g1.1, g2.1, Bool.and_eq_true, decide_eq_true_eq, true_and, l1.1, l1.2, l2.1, l2.2]
  have e1 : ∀ p q : Int, (mxI p q = p ∨ mxI p q = q) := fun p q => by unfold mxI; split <;> omega
  have e2 : ∀ p q : Int, (mnI p q = p ∨ mnI p q = q) := fun p q => by unfold mnI; split <;> omega
  have := e1 x 0
  have := e1 y 0
  have := e2 (x + w - 1) (0 + ww - 1)
  have := e2 (y + h - 1) (0 + hh - 1)
  omega
theorem okR_eq {W : Wd} {cl sz x y w h mx my mw mh : Int} (hh : ∀ a b, hasB mx my mw mh a b = (hasB x y w h a b && hasB 0 0 W.w W.h a b)) : okR W cl sz mx my mw mh = okR W cl sz x y w h := by
  funext c d
  simp only [okR, okS, hh]
  cases hs : W.steps cl sz c.1 c.2 d with
  | false => simp
  | true =>
    have h2 := hs
    simp only [Wd.steps, Bool.and_eq_true] at h2
    have s1 := (stands_in h2.1.1.2).2.2.2.1
    have s2 := (stands_in h2.1.2).2.2.2.1
    unfold Wd.has at s1 s2
    have s2' : hasB 0 0 W.w W.h (mvC c d).1 (mvC c d).2 = true := s2
    rw [s1, s2', Bool.and_true, Bool.and_true]
    try simp
/-- The blocks of Find's frame, but for the current cell's. -/
def gfB (W : Wd) (v : SV) (f1 f2 t1 t2 ax ay aw ah mx my mw mh : Int) (hv : SV) (jl : List SBk) : List SBk := [.cells true [.int .i64 W.w, .int .i64 W.h, v], .cells true [.int .i64 f1, .int .i64 f2], .cells true [.int .i64 t1, .int .i64 t2], .cells true [.int .i64 ax, .int .i64 ay, .int .i64 aw, .int .i64 ah], .cells true [.int .i64 0, .nils], .cells true [.int .i64 2, .nils], .cells true [.int .i64 mx, .int .i64 my, .int .i64 mw, .int .i64 mh], .cells true [.int .i64 1, hv]] ++ jl
section
variable (W : Wd) (v : SV) (f1 f2 t1 t2 ax ay aw ah mx my mw mh : Int) (hv : SV) (jl : List SBk)
theorem gfB_0 (c : List SBk) : (gfB W v f1 f2 t1 t2 ax ay aw ah mx my mw mh hv jl ++ c)[0]? = some (.cells true [.int .i64 W.w, .int .i64 W.h, v]) := rfl
theorem gfB_2 (c : List SBk) : (gfB W v f1 f2 t1 t2 ax ay aw ah mx my mw mh hv jl ++ c)[2]? = some (.cells true [.int .i64 t1, .int .i64 t2]) := rfl
theorem gfB_4 (c : List SBk) : (gfB W v f1 f2 t1 t2 ax ay aw ah mx my mw mh hv jl ++ c)[4]? = some (.cells true [.int .i64 0, .nils]) := rfl
theorem gfB_6 (c : List SBk) : (gfB W v f1 f2 t1 t2 ax ay aw ah mx my mw mh hv jl ++ c)[6]? = some (.cells true [.int .i64 mx, .int .i64 my, .int .i64 mw, .int .i64 mh]) := rfl
theorem gfB_7 (c : List SBk) : (gfB W v f1 f2 t1 t2 ax ay aw ah mx my mw mh hv jl ++ c)[7]? = some (.cells true [.int .i64 1, hv]) := rfl
theorem gfB_len : (gfB W v f1 f2 t1 t2 ax ay aw ah mx my mw mh hv jl).length = 8 + jl.length := by simp [gfB]; omega
theorem gfB_i (c : SBk) (r : List SBk) : (gfB W v f1 f2 t1 t2 ax ay aw ah mx my mw mh hv jl ++ c :: r)[8 + jl.length]? = some c := by rw [← gfB_len W v f1 f2 t1 t2 ax ay aw ah mx my mw mh hv jl]; simp
theorem gfB_n (c d : SBk) : (gfB W v f1 f2 t1 t2 ax ay aw ah mx my mw mh hv jl ++ [c, d])[8 + jl.length + 1]? = some d := by rw [← gfB_len W v f1 f2 t1 t2 ax ay aw ah mx my mw mh hv jl]; simp
theorem gfB_si (c d : SBk) (r : List SBk) : (gfB W v f1 f2 t1 t2 ax ay aw ah mx my mw mh hv jl ++ c :: r).set (8 + jl.length) d = gfB W v f1 f2 t1 t2 ax ay aw ah mx my mw mh hv jl ++ d :: r := by rw [← gfB_len W v f1 f2 t1 t2 ax ay aw ah mx my mw mh hv jl, List.set_append_right _ _ (Nat.le_refl _), Nat.sub_self]; rfl
theorem gfB_sn (c d x : SBk) : (gfB W v f1 f2 t1 t2 ax ay aw ah mx my mw mh hv jl ++ [c, d]).set (8 + jl.length + 1) x = gfB W v f1 f2 t1 t2 ax ay aw ah mx my mw mh hv jl ++ [c, x] := by rw [← gfB_len W v f1 f2 t1 t2 ax ay aw ah mx my mw mh hv jl, List.set_append_right _ _ (Nat.le_succ _)]; simp
theorem gfB_s7 (c : List SBk) (hv2 : SV) : (gfB W v f1 f2 t1 t2 ax ay aw ah mx my mw mh hv jl ++ c).set 7 (.cells true [.int .i64 1, hv2]) = gfB W v f1 f2 t1 t2 ax ay aw ah mx my mw mh hv2 jl ++ c := rfl
theorem gfB_s4 (c : List SBk) (u : List SV) : (gfB W v f1 f2 t1 t2 ax ay aw ah mx my mw mh hv jl ++ c).set 4 (.cells true u) = [.cells true [.int .i64 W.w, .int .i64 W.h, v], .cells true [.int .i64 f1, .int .i64 f2], .cells true [.int .i64 t1, .int .i64 t2], .cells true [.int .i64 ax, .int .i64 ay, .int .i64 aw, .int .i64 ah], .cells true u, .cells true [.int .i64 2, .nils], .cells true [.int .i64 mx, .int .i64 my, .int .i64 mw, .int .i64 mh], .cells true [.int .i64 1, hv]] ++ (jl ++ c) := rfl
theorem gfB_ap (c d : SBk) : gfB W v f1 f2 t1 t2 ax ay aw ah mx my mw mh hv jl ++ [c] ++ [d] = gfB W v f1 f2 t1 t2 ax ay aw ah mx my mw mh hv jl ++ [c, d] := by simp
theorem gfB_new2 (c d x : SBk) : gfB W v f1 f2 t1 t2 ax ay aw ah mx my mw mh hv jl ++ [c, d] ++ [x] = gfB W v f1 f2 t1 t2 ax ay aw ah mx my mw mh hv (jl ++ [c, d]) ++ [x] := by simp [gfB]
theorem gfB_l2 (c d : SBk) : (gfB W v f1 f2 t1 t2 ax ay aw ah mx my mw mh hv jl ++ [c, d]).length = 8 + (jl ++ [c, d]).length := by simp [gfB]; omega
theorem gfB_l1 (c : SBk) : (gfB W v f1 f2 t1 t2 ax ay aw ah mx my mw mh hv jl ++ [c]).length = 8 + jl.length + 1 := by simp [gfB]; omega
theorem gfB_t1 (c : SBk) (r : List SBk) : (gfB W v f1 f2 t1 t2 ax ay aw ah mx my mw mh hv jl ++ c :: r).take (8 + jl.length + 1) = gfB W v f1 f2 t1 t2 ax ay aw ah mx my mw mh hv jl ++ [c] := by
  rw [← gfB_len W v f1 f2 t1 t2 ax ay aw ah mx my mw mh hv jl]; simp only [List.take_append, Nat.add_sub_cancel_left]; rw [List.take_of_length_le (Nat.le_succ _)]; rfl
end
theorem gfind_loop {X : Mem} {H HC : Hp} (hH : X.heap = H) {v : SV} {W : Wd} {cl sz : Int} (hv : LiesD boolF (Hm H) v (W.gr cl sz)) (w1 : 1 ≤ W.w ∧ W.w ≤ 128) (w2 : 1 ≤ W.h ∧ W.h ≤ 128) (hw : X.Wf) (hhb : X.hb ≤ X.hl) {f1 f2 t1 t2 ax ay aw ah mx my mw mh : Int}
    (hmm : mayB mx my mw mh = true) (hmx : 0 ≤ mx ∧ 1 ≤ mw ∧ mx + mw ≤ 128) (hmy : 0 ≤ my ∧ 1 ≤ mh ∧ my + mh ≤ 128) (hmh : ∀ a b, hasB mx my mw mh a b = (hasB ax ay aw ah a b && hasB 0 0 W.w W.h a b)) {cv : SV} {cs : List Int} (oc : Own iF HC cv cs) (kC : Keep [] H HC) (lc : cs.length = (Bx.mk mx my mw mh).n)
    (hat : ∀ {a b : Int} (hh : hasB mx my mw mh a b = true), ∃ w, cs[(Bx.mk mx my mw mh).ix (a, b)]? = some w ∧ -1 ≤ w ∧ w ≤ 14 * 16384 ∧ ((0 ≤ w ∧ Mn (okR W cl sz ax ay aw ah) (t1, t2) (a, b) w) ∨ (w = -1 ∧ ∀ u, ¬ Pth (okR W cl sz ax ay aw ah) (t1, t2) (a, b) u)))
    (hvd : Vd W cl sz ax ay aw ah f1 f2 t1 t2 = true) {v0 : Int} (hv0 : v0 ≤ 14 * 16384) (hMn : Mn (okR W cl sz ax ay aw ah) (t1, t2) (f1, f2) v0) :
    ∃ H' u o v' l c, fin [.cell 8 (some 2), .t 9] X (KL tb [KI.block 0, KI.kp [8, 14, 15], KI.seq (s_ref08_Ground_Find_p24.seq SCode.ret)] 9 none s_ref08_Ground_Find_p23
      [(4, .ptr (.st X.dep 0) 0), (6, .ptr (.st X.dep 2) 0), (8, .ptr (.st X.dep 4) 0), (11, .ptr (.st X.dep 6) 0), (13, cv), (14, .ptr (.st X.dep 7) 0), (15, .int .i64 v0), (16, .ptr (.st X.dep 8) 0)]
      ((X.hp HC).fr [.cells true [.int .i64 W.w, .int .i64 W.h, v], .cells true [.int .i64 f1, .int .i64 f2], .cells true [.int .i64 t1, .int .i64 t2], .cells true [.int .i64 ax, .int .i64 ay, .int .i64 aw, .int .i64 ah], .cells true [.int .i64 0, .nils], .cells true [.int .i64 2, .nils], .cells true [.int .i64 mx, .int .i64 my, .int .i64 mw, .int .i64 mh], .cells true [.int .i64 1, .nils], .cells true [.int .i64 f1, .int .i64 f2]] none)) = some (.tup [.agg [.int .i64 o, v'], .int .i64 c], (X.hp H').es (escMin X.esc u)) ∧ Keep [] H H' ∧ Own cellF H' v' l ∧ (∀ i ∈ slFp v', H.length ≤ i) ∧ WayRes W cl sz ax ay aw ah f1 f2 t1 t2 16384 o l c := by
  have hE := edg_ok W cl sz (fun c => hasB ax ay aw ah c.1 c.2)
  have hHl : X.hl = H.length := by rw [← hH]; rfl
  have hbx : ∀ {a b : Int}, hasB mx my mw mh a b = true → (Bx.mk mx my mw mh).has (a, b) = true := fun h => by rw [← bx_has hmm]; exact h
  have hrat := fun {m : Mem} (hl : LiesD iF m cv cs) {a b vk : Int} (hr : hasB mx my mw mh a b = true) (hvk : cs[(Bx.mk mx my mw mh).ix (a, b)]? = some vk) {Y : Mem} (hX : HpSub m Y) (hwY : Y.Wf) => r_ref08_at hl hmx hmy lc (hbx hr) hvk hX hwY
  have sc := oc.isSl iF_even
  have hv00 := (hMn.1.nn hE.dir).1
  have hpi : ∀ c w, Pth (okR W cl sz ax ay aw ah) (t1, t2) c w → hasB mx my mw mh c.1 c.2 = true := fun c w hp => by
    simp only [Vd, Bool.and_eq_true] at hvd
    have := pth_in (inR := fun c => hasB ax ay aw ah c.1 c.2) ⟨hvd.1.1.2, hvd.2⟩ hp
    have h9 := (stands_in this.2).2.2.2.1
    unfold Wd.has at h9
    rw [hmh, h9, Bool.and_true]
    exact this.1
  refine KL_ind (R := fun z => ∃ H' u o v' l c, fin [.cell 8 (some 2), .t 9] X z = some (.tup [.agg [.int .i64 o, v'], .int .i64 c], (X.hp H').es (escMin X.esc u)) ∧ Keep [] H H' ∧ Own cellF H' v' l ∧ (∀ i ∈ slFp v', H.length ≤ i) ∧ WayRes W cl sz ax ay aw ah f1 f2 t1 t2 16384 o l c) (α := List Cl × Cl × Int × SV × Hp × List SBk × Option Cl) (fun q => q.2.2.1.toNat)
    (fun q => match q.2.2.2.2.2.2 with
      | none => [(4, .ptr (.st X.dep 0) 0), (6, .ptr (.st X.dep 2) 0), (8, .ptr (.st X.dep 4) 0), (11, .ptr (.st X.dep 6) 0), (13, cv), (14, .ptr (.st X.dep 7) 0), (15, .int .i64 v0), (16, .ptr (.st X.dep (8 + q.2.2.2.2.2.1.length)) 0)]
      | some p => [(16, .ptr (.st X.dep (8 + q.2.2.2.2.2.1.length)) 0), (126, .agg [.int .i64 p.1, .int .i64 p.2]), (4, .ptr (.st X.dep 0) 0), (6, .ptr (.st X.dep 2) 0), (8, .ptr (.st X.dep 4) 0), (11, .ptr (.st X.dep 6) 0), (13, cv), (14, .ptr (.st X.dep 7) 0), (15, .int .i64 v0), (16, .ptr (.st X.dep (8 + (q.2.2.2.2.2.1.length - 2))) 0)])
    (fun q => (X.hp q.2.2.2.2.1).fr (gfB W v f1 f2 t1 t2 ax ay aw ah mx my mw mh q.2.2.2.1 q.2.2.2.2.2.1 ++ [.cells true [.int .i64 q.2.1.1, .int .i64 q.2.1.2]]) none)
    (fun q => Own cellF q.2.2.2.2.1 q.2.2.2.1 q.1 ∧ (∀ i ∈ slFp q.2.2.2.1, HC.length ≤ i) ∧ Keep [] HC q.2.2.2.2.1 ∧ Mn (okR W cl sz ax ay aw ah) (t1, t2) q.2.1 q.2.2.1 ∧ wayC (okR W cl sz ax ay aw ah) (t1, t2) v0.toNat (f1, f2) = q.1 ++ wayC (okR W cl sz ax ay aw ah) (t1, t2) v0.toNat q.2.1 ∧ 10 * (q.1.length : Int) + q.2.2.1 ≤ v0) ?_ ([], (f1, f2), v0, .nils, HC, [], none) ⟨Own.nil _, by simp [slFp], Keep.refl _ _, hMn, rfl, by simp⟩
  rintro ⟨acc, ⟨c1, c2⟩, vc, hv', Hc, jl, pc⟩ ⟨ow, fp, kc, hm, hway, hlen⟩ ih
  dsimp only at ow fp kc hm hway hlen ⊢
  have hk2 := kc.1
  have hk1 := kC.1
  have hvc := (hm.1.nn hE.dir).1
  have s1 := ow.isSl cellF_even
  have kkh : Keep [] H Hc := kC.trans kc
  by_cases hct : ((c1, c2) : Cl) = (t1, t2)
  · simp only [Prod.mk.injEq] at hct
    obtain ⟨rfl, rfl⟩ := hct
    have kb := (show Keep [] X.heap Hc by rw [hH]; exact kkh).back (h := hv'.hx) (u := none)
    rw [hH] at kb
    rcases pc with _ | pc
    all_goals dsimp only
    all_goals simp (maxDischargeDepth := 8) only [go_sem, hw, s1.l, s1.c, s1.k, s1.o, gfB_0, gfB_2, gfB_4, gfB_6, gfB_7, gfB_i, gfB_s4, sc.l]
    all_goals
      refine ⟨(if hv'.hx ≤ X.hl then List.take X.hl Hc else Hc), none, 1, hv', acc, v0, ?_, ?_, ow.congr fun i hi => ?_, fun i hi => by have := fp i hi; omega, .inr ⟨rfl, hvd, hMn, by omega, ?_⟩⟩
      · cases X with | mk a b c d e => cases e <;> rfl
      · have := (show Keep [] X.heap Hc by rw [hH]; exact kkh).back1 (h := hv'.hx)
        rw [hH] at this
        exact this
      · have := fp i hi
        have h9 := hx_fp hi
        rw [if_neg (by omega)]
      · rw [hway, way_nil, List.append_nil]
  · have hne : (c1 == t1 && c2 == t2) = false := by
      rw [Bool.eq_false_iff]
      intro hc
      simp only [Bool.and_eq_true, beq_iff_eq] at hc
      exact hct (Prod.ext hc.1 hc.2)
    have hcm := hpi _ _ hm.1
    dsimp only at hcm
    obtain ⟨w', q1, q2, q3, q4⟩ := hat hcm
    obtain rfl : w' = vc := by
      rcases q4 with ⟨_, q4⟩ | ⟨_, q4⟩
      · exact q4.uniq hm
      · exact absurd hm.1 (q4 _)
    have hvH : LiesD boolF (Hm Hc) v (W.gr cl sz) := hv.sub kkh.sub
    have hst8 := fun {Y : Mem} (hX : HpSub (Hm Hc) Y) (hwY : Y.Wf) (x y d : Int) => r_ref08_Ground_Steps hvH w1 w2 (cl := cl) (sz := sz) hX hwY x y d
    have lC := (oc.keep kc (by simp)).lies iF_even
    have hgood : ∀ d, W.steps cl sz c1 c2 d = true → (Good (okR W cl sz ax ay aw ah) (t1, t2) (c1, c2) d ↔ hasB mx my mw mh (c1 + turnX d) (c2 + turnY d) = true ∧ ∃ w, cs[(Bx.mk mx my mw mh).ix (c1 + turnX d, c2 + turnY d)]? = some w ∧ 0 ≤ w ∧ w + costP d = w') := by
      intro d hs
      constructor
      · rintro ⟨hk, u, g1, g2⟩
        have hb := hpi _ _ g1.1
        obtain ⟨u', r1, r2, r3, r4⟩ := hat (a := c1 + turnX d) (b := c2 + turnY d) hb
        refine ⟨hb, u', r1, ?_⟩
        rcases r4 with ⟨r5, r4⟩ | ⟨_, r4⟩
        · obtain rfl := r4.uniq g1
          exact ⟨r5, hm.uniq g2 ▸ rfl⟩
        · exact absurd g1.1 (r4 _)
      · rintro ⟨hb, u, g1, g2, g3⟩
        obtain ⟨u', r1, r2, r3, r4⟩ := hat hb
        rw [g1] at r1; cases r1
        rcases r4 with ⟨r5, r4⟩ | ⟨r5, r4⟩
        · refine ⟨?_, u, r4, by rw [g3]; exact hm⟩
          rw [← okR_eq hmh]
          simp only [okR, okS, mvC, hcm, hs, hb, Bool.and_self]
        · omega
    obtain ⟨dg, hfd, hgg, hnx, hM2, hdg⟩ := nxt_good hE hm hct
    have hwc := way_cons hE (n := v0.toNat) hm (by omega) hct
    have hcd := cost_pos hdg
    have hvn := (hM2.1.nn hE.dir).1
    have inner : ∃ H' u o v' l c, fin [.cell 8 (some 2), .t 9] X (KL tb [KI.block 2, KI.kp [4, 6, 8, 11, 13, 14, 15, 16], KI.seq s_ref08_Ground_Find_p21, KI.block 1, KI.kp [4, 6, 8, 11, 13, 14, 15, 16], KI.seq s_ref08_Ground_Find_p22, KI.loop 9 none s_ref08_Ground_Find_p23, KI.block 0, KI.kp [8, 14, 15], KI.seq (s_ref08_Ground_Find_p24.seq SCode.ret)]
        (8 + jl.length + 1) (some [4, 6, 8, 11, 13, 14, 15, 16, 17]) s_ref08_Ground_Find_p19 [(4, .ptr (.st X.dep 0) 0), (6, .ptr (.st X.dep 2) 0), (8, .ptr (.st X.dep 4) 0), (11, .ptr (.st X.dep 6) 0), (13, cv), (14, .ptr (.st X.dep 7) 0), (15, .int .i64 v0), (16, .ptr (.st X.dep (8 + jl.length)) 0), (17, .int .i64 ((0 : Nat) : Int))]
        ((X.hp Hc).fr (gfB W v f1 f2 t1 t2 ax ay aw ah mx my mw mh hv' jl ++ [.cells true [.int .i64 c1, .int .i64 c2]]) none)) = some (.tup [.agg [.int .i64 o, v'], .int .i64 c], (X.hp H').es (escMin X.esc u)) ∧ Keep [] H H' ∧ Own cellF H' v' l ∧ (∀ i ∈ slFp v', H.length ≤ i) ∧ WayRes W cl sz ax ay aw ah f1 f2 t1 t2 16384 o l c := by
      refine KL_ind (R := fun z => ∃ H' u o v' l c, fin [.cell 8 (some 2), .t 9] X z = some (.tup [.agg [.int .i64 o, v'], .int .i64 c], (X.hp H').es (escMin X.esc u)) ∧ Keep [] H H' ∧ Own cellF H' v' l ∧ (∀ i ∈ slFp v', H.length ≤ i) ∧ WayRes W cl sz ax ay aw ah f1 f2 t1 t2 16384 o l c) (α := Nat) (fun d => 9 - d)
        (fun d => [(4, .ptr (.st X.dep 0) 0), (6, .ptr (.st X.dep 2) 0), (8, .ptr (.st X.dep 4) 0), (11, .ptr (.st X.dep 6) 0), (13, cv), (14, .ptr (.st X.dep 7) 0), (15, .int .i64 v0), (16, .ptr (.st X.dep (8 + jl.length)) 0), (17, .int .i64 (d : Int))])
        (fun _ => (X.hp Hc).fr (gfB W v f1 f2 t1 t2 ax ay aw ah mx my mw mh hv' jl ++ [.cells true [.int .i64 c1, .int .i64 c2]]) none)
        (fun d => d ≤ 8 ∧ ∀ d', isDir d' = true → d' < (d : Int) → ¬ Good (okR W cl sz ax ay aw ah) (t1, t2) (c1, c2) d') ?_ 0 ⟨Nat.zero_le _, fun d' h1 h2 => by simp [isDir] at h1; omega⟩
      rintro d ⟨hd8, hng⟩ ih2
      have lidx : (8 + jl.length < 8 + jl.length + 1) = True := by simp
      have l7 : ∀ k : Nat, k ≤ 8 → (k < 8 + jl.length + 1) = True := fun k hk => by simp; omega
      simp (maxDischargeDepth := 8) only [go_sem, hw, s1.l, sc.l, l7, lidx]
      by_cases hd : d < 8
      · have hdir : isDir (d : Int) = true := by simp [isDir]; omega
        have ngo : ¬ Good (okR W cl sz ax ay aw ah) (t1, t2) (c1, c2) d → ∀ d', isDir d' = true → d' < ((d + 1 : Nat) : Int) → ¬ Good (okR W cl sz ax ay aw ah) (t1, t2) (c1, c2) d' := fun h d' h1 h2 => by
          by_cases e : d' = (d : Int)
          · subst e; exact h
          · exact hng d' h1 (by omega)
        have hnext : ¬ Good (okR W cl sz ax ay aw ah) (t1, t2) (c1, c2) d → _ := fun h => ih2 (d + 1) ⟨by omega, ngo h⟩ (by omega)
        cases hs : W.steps cl sz c1 c2 d with
        | false =>
          simp (maxDischargeDepth := 8) only [go_sem, show decide ((d : Int) < 8) = true from decide_eq_true (by omega), hw, s1.l, sc.l, l7, lidx, gfB_t1, gfB_0, gfB_i, gfB_ap, gfB_n, gfB_sn, gfB_l1, hst8, hs, wrap_succ (show d ≤ 4611686018427387903 by omega)]
          rw [KL_keep _ _ _ (by simp (maxDischargeDepth := 8) only [go_sem, sc.l, l7, lidx])]
          simp (maxDischargeDepth := 8) only [go_sem, gfB_t1]
          refine hnext ?_
          rintro ⟨hk, _⟩
          simp only [okR, okS, hs, Bool.and_false, Bool.false_and] at hk
          cases hk
        | true =>
          cases hb : hasB mx my mw mh (c1 + turnX d) (c2 + turnY d) with
          | false =>
            simp (maxDischargeDepth := 8) only [go_sem, show decide ((d : Int) < 8) = true from decide_eq_true (by omega), hw, s1.l, sc.l, l7, lidx, gfB_t1, gfB_0, gfB_6, gfB_i, gfB_ap, gfB_n, gfB_sn, gfB_l1, hst8, hs, r_ref03_Has, hb, wrap_succ (show d ≤ 4611686018427387903 by omega)]
            rw [KL_keep _ _ _ (by simp (maxDischargeDepth := 8) only [go_sem, sc.l, l7, lidx])]
            simp (maxDischargeDepth := 8) only [go_sem, gfB_t1]
            refine hnext fun hG => ?_
            have := (hgood d hs).1 hG
            rw [hb] at this
            cases this.1
          | true =>
            obtain ⟨wn, r1, r2, r3, r4⟩ := hat hb
            have hcdd := cost_pos hdir
            have wwn : IntKind.wrap .i64 (wn + costP d) = wn + costP d := wrap_small (by omega) (by omega)
            by_cases hG : Good (okR W cl sz ax ay aw ah) (t1, t2) (c1, c2) d
            · obtain ⟨_, u, g1, g2, g3⟩ := (hgood d hs).1 hG
              rw [r1] at g1; cases g1
              have hdd : (d : Int) = dg := by
                have h9 := firstD_first hG hdir hng
                rw [hfd] at h9
                cases h9; rfl
              rw [← hdd] at hnx hM2 hcd
              change nxtC _ _ _ = (c1 + turnX d, c2 + turnY d) at hnx
              rw [hnx] at hM2 hwc
              obtain ⟨a, ha'⟩ : ∃ a, c1 + turnX d = a := ⟨_, rfl⟩
              obtain ⟨b, hb'⟩ : ∃ b, c2 + turnY d = b := ⟨_, rfl⟩
              obtain ⟨hv2, H2, ha, o1, o2, o3, o4⟩ := app1 ow fp kc (by omega) X (by omega) (c1 + turnX d) (c2 + turnY d)
              have fin2 := ih (acc ++ [(c1 + turnX d, c2 + turnY d)], (c1 + turnX d, c2 + turnY d), w' - costP d, hv2, H2, jl ++ [.cells true [.int .i64 (c1 + turnX d), .int .i64 (c2 + turnY d)], .cells true [.int .i64 (c1 + turnX d), .int .i64 (c2 + turnY d)]], some (c1 + turnX d, c2 + turnY d)) ⟨o1, o3, o2, hM2, by dsimp only; rw [hway, hwc, List.append_assoc]; rfl, by dsimp only; rw [List.length_append, List.length_singleton]; omega⟩ (by dsimp only; omega)
              dsimp only at fin2
              rw [show (jl ++ [SBk.cells true [.int .i64 (c1 + turnX d), .int .i64 (c2 + turnY d)], SBk.cells true [.int .i64 (c1 + turnX d), .int .i64 (c2 + turnY d)]]).length - 2 = jl.length by simp] at fin2
              simp (maxDischargeDepth := 8) only [go_sem, show decide ((d : Int) < 8) = true from decide_eq_true (by omega), hw, s1.l, sc.l, l7, lidx, gfB_t1, gfB_0, gfB_6, gfB_7, gfB_i, gfB_ap, gfB_n, gfB_sn, gfB_si, gfB_l1, hst8, hs, r_ref03_Has, hb, hrat lC hb r1, hrat lC hcm q1, show decide (wn ≥ 0) = true from decide_eq_true g2, r_ref03_Cost, wwn, g3, wrap_small (x := w') (by omega) (by omega), show ∀ n : Int, (n == n) = true from fun n => by simp, s1.c, s1.k, s1.o, ha, o4.l, o4.c, o4.k, o4.o, gfB_s7, gfB_new2, gfB_l2]
              exact fin2
            · by_cases hw0 : 0 ≤ wn
              · have hne2 : (wn + costP d == w') = false := by
                  rw [beq_eq_false_iff_ne]
                  exact fun hc => hG ((hgood d hs).2 ⟨hb, wn, r1, hw0, hc⟩)
                simp (maxDischargeDepth := 8) only [go_sem, show decide ((d : Int) < 8) = true from decide_eq_true (by omega), hw, s1.l, sc.l, l7, lidx, gfB_t1, gfB_0, gfB_6, gfB_i, gfB_ap, gfB_n, gfB_sn, gfB_l1, hst8, hs, r_ref03_Has, hb, hrat lC hb r1, hrat lC hcm q1, show decide (wn ≥ 0) = true from decide_eq_true hw0, r_ref03_Cost, wwn, hne2, wrap_succ (show d ≤ 4611686018427387903 by omega)]
                rw [KL_keep _ _ _ (by simp (maxDischargeDepth := 8) only [go_sem, sc.l, l7, lidx])]
                simp (maxDischargeDepth := 8) only [go_sem, gfB_t1]
                exact hnext hG
              · simp (maxDischargeDepth := 8) only [go_sem, show decide ((d : Int) < 8) = true from decide_eq_true (by omega), hw, s1.l, sc.l, l7, lidx, gfB_t1, gfB_0, gfB_6, gfB_i, gfB_ap, gfB_n, gfB_sn, gfB_l1, hst8, hs, r_ref03_Has, hb, hrat lC hb r1, show decide (wn ≥ 0) = false from decide_eq_false hw0, wrap_succ (show d ≤ 4611686018427387903 by omega)]
                rw [KL_keep _ _ _ (by simp (maxDischargeDepth := 8) only [go_sem, sc.l, l7, lidx])]
                simp (maxDischargeDepth := 8) only [go_sem, gfB_t1]
                exact hnext hG
      · exfalso
        have : isDir dg = true := hdg
        simp [isDir] at this
        exact hng dg hdg (by omega) hgg
    rcases pc with _ | pc
    all_goals dsimp only
    all_goals simp (maxDischargeDepth := 8) only [go_sem, hw, hne, s1.l, s1.c, s1.k, s1.o, gfB_0, gfB_2, gfB_4, gfB_6, gfB_7, gfB_i, gfB_s4, gfB_l1, sc.l]
    all_goals exact inner
theorem r_ref08_Ground_Find {X : Mem} {v : SV} {W : Wd} {cl sz : Int} (hv : LiesD boolF (Hm X.heap) v (W.gr cl sz)) (w1 : 1 ≤ W.w ∧ W.w ≤ 128) (w2 : 1 ≤ W.h ∧ W.h ≤ 128) (hw : X.Wf) (hhb : X.hb ≤ X.hl) (f1 f2 t1 t2 ax ay aw ah : Int) :
    ∃ H' u o v' l c, RF tb f_ref08_Ground_Find [grV W.w W.h v, cellV f1 f2, cellV t1 t2, rect ax ay aw ah] X = some (.tup [.agg [.int .i64 o, v'], .int .i64 c], (X.hp H').es (escMin X.esc u)) ∧ Keep [] X.heap H' ∧ Own cellF H' v' l ∧ (∀ i ∈ slFp v', X.heap.length ≤ i) ∧ WayRes W cl sz ax ay aw ah f1 f2 t1 t2 16384 o l c := by
  rw [RF_go t_ref08_Ground_Find _ _ rfl, push_hp]
  generalize hH : X.heap = H at *
  have hHl : X.hl = H.length := by rw [← hH]; rfl
  have sv := hv.isSl
  have htk : H.take X.hl = H := by rw [hHl, List.take_length]
  have nope : Vd W cl sz ax ay aw ah f1 f2 t1 t2 = false → ∃ H' u o v' l c, (some (.tup [.agg [.int .i64 2, .nils], .int .i64 0], X.hp (List.take X.hl H)) : Option (SV × Mem)) = some (.tup [.agg [.int .i64 o, v'], .int .i64 c], (X.hp H').es (escMin X.esc u)) ∧ Keep [] H H' ∧ Own cellF H' v' l ∧ (∀ i ∈ slFp v', H.length ≤ i) ∧ WayRes W cl sz ax ay aw ah f1 f2 t1 t2 16384 o l c := fun hv => by
    refine ⟨H, none, 2, .nils, [], 0, ?_, Keep.refl _ _, Own.nil _, by simp [slFp], .inl ⟨rfl, rfl, rfl, fun h => by rw [hv] at h; cases h⟩⟩
    rw [htk]
    cases X with | mk a b c d e => cases e <;> rfl
  have hst := fun {Y : Mem} (hX : HpSub (Hm H) Y) (hwY : Y.Wf) (x y : Int) => r_ref08_Ground_Stands hv w1 w2 (cl := cl) (sz := sz) hX hwY x y
  simp (maxDischargeDepth := 8) only [go_sem, s_ref08_Ground_Find, grV, cellV, rect, hw, hH, sv.l, sv.c, sv.k, sv.o, r_ref03_May]
  cases hmay : mayB ax ay aw ah with
  | false =>
    simp (maxDischargeDepth := 8) only [go_sem, hw, sv.l]
    exact nope (by simp [Vd, hasB, hmay])
  | true =>
    simp (maxDischargeDepth := 8) only [go_sem, hw, sv.l, r_ref03_Has]
    cases h1 : hasB ax ay aw ah f1 f2 with
    | false =>
      simp (maxDischargeDepth := 8) only [go_sem, hw, sv.l]
      exact nope (by simp [Vd, h1])
    | true =>
      simp (maxDischargeDepth := 8) only [go_sem, hw, sv.l, r_ref03_Has]
      cases h2 : hasB ax ay aw ah t1 t2 with
      | false =>
        simp (maxDischargeDepth := 8) only [go_sem, hw, sv.l]
        exact nope (by simp [Vd, h2])
      | true =>
        simp (maxDischargeDepth := 8) only [go_sem, hw, sv.l, r_ref03_Meet]
        cases hme : meetB ax ay aw ah 0 0 W.w W.h with
        | false =>
          simp (maxDischargeDepth := 8) only [go_sem, hw, sv.l]
          refine nope ?_
          cases h3 : W.stands cl sz f1 f2 with
          | false => simp [Vd, h3]
          | true =>
            have h9 := (stands_in h3).2.2.2.1
            unfold Wd.has at h9
            have := meet_of_has h1 h9
            rw [hme] at this; cases this
        | true =>
          obtain ⟨mx, my, mw, mh, hmv, hmm, hmx, hmy, hmh⟩ := meet_box w1 w2 hme
          simp only [meetV, rect, hme, SV.agg.injEq, List.cons.injEq, SV.int.injEq, and_true, true_and] at hmv
          obtain ⟨v1, v2, v3, v4⟩ := hmv
          simp (maxDischargeDepth := 8) only [go_sem, hw, sv.l, hst, v1, v2, v3, v4]
          cases h3 : W.stands cl sz f1 f2 with
          | false =>
            simp (maxDischargeDepth := 8) only [go_sem, hw, sv.l]
            exact nope (by simp [Vd, h3])
          | true =>
            simp (maxDischargeDepth := 8) only [go_sem, hw, sv.l, hst]
            cases h4 : W.stands cl sz t1 t2 with
            | false =>
              simp (maxDischargeDepth := 8) only [go_sem, hw, sv.l]
              exact nope (by simp [Vd, h4])
            | true =>
              have hvd : Vd W cl sz ax ay aw ah f1 f2 t1 t2 = true := by simp [Vd, h1, h2, h3, h4]
              have sb1 := (stands_in h3).2.2.2.1
              have sb2 := (stands_in h4).2.2.2.1
              unfold Wd.has at sb1 sb2
              have g1 : hasB mx my mw mh f1 f2 = true := by rw [hmh, h1, sb1]; rfl
              have g2 : hasB mx my mw mh t1 t2 = true := by rw [hmh, h2, sb2]; rfl
              clear nope
              simp (maxDischargeDepth := 8) only [go_sem, hw, sv.l]
              generalize hz : RF tb f_ref08_Ground_Costs _ _ = z
              obtain ⟨cv, HC, cs, hzc, oc, fc, kC, lc, bc, -, hco⟩ := r_ref08_Ground_Costs (X := (X.hp H).fr [.cells true [.int .i64 W.w, .int .i64 W.h, v], .cells true [.int .i64 f1, .int .i64 f2], .cells true [.int .i64 t1, .int .i64 t2], .cells true [.int .i64 ax, .int .i64 ay, .int .i64 aw, .int .i64 ah], .cells true [.int .i64 0, .nils], .cells true [.int .i64 2, .nils], .cells true [.int .i64 mx, .int .i64 my, .int .i64 mw, .int .i64 mh]] none) hv w1 w2 (fr_wf (hp_wf hw) _ _) (by show X.hb ≤ H.length; omega) hmm hmx hmy g2
              obtain rfl := hz.symm.trans hzc
              clear hz hzc
              have hco := hco h4
              rw [okR_eq hmh] at hco
              change ∀ i ∈ slFp cv, H.length ≤ i at fc
              change Keep [] H HC at kC
              have sc := oc.isSl iF_even
              have lC := oc.lies iF_even
              have hn16 : (Bx.mk mx my mw mh).n ≤ 16384 := by show mw.toNat * mh.toNat ≤ 16384; exact Nat.mul_le_mul (show mw.toNat ≤ 128 by omega) (show mh.toNat ≤ 128 by omega)
              have hbx : ∀ {a b : Int}, hasB mx my mw mh a b = true → (Bx.mk mx my mw mh).has (a, b) = true := fun h => by rw [← bx_has hmm]; exact h
              have hat : ∀ {a b : Int} (hh : hasB mx my mw mh a b = true), ∃ w, cs[(Bx.mk mx my mw mh).ix (a, b)]? = some w ∧ -1 ≤ w ∧ w ≤ 14 * 16384 ∧ ((0 ≤ w ∧ Mn (okR W cl sz ax ay aw ah) (t1, t2) (a, b) w) ∨ (w = -1 ∧ ∀ u, ¬ Pth (okR W cl sz ax ay aw ah) (t1, t2) (a, b) u)) := fun hh => by
                obtain ⟨w, q1, q2⟩ := hco.val _ (hbx hh)
                have := bc w (List.mem_of_getElem? q1)
                refine ⟨w, q1, ?_, by omega, q2⟩
                rcases q2 with ⟨q2, _⟩ | ⟨q2, _⟩ <;> omega
              obtain ⟨v0, e0, e1, e2, e3⟩ := hat g1
              have hrat := fun {m : Mem} (hl : LiesD iF m cv cs) {a b vk : Int} (hr : hasB mx my mw mh a b = true) (hvk : cs[(Bx.mk mx my mw mh).ix (a, b)]? = some vk) {Y : Mem} (hX : HpSub m Y) (hwY : Y.Wf) => r_ref08_at hl hmx hmy lc (hbx hr) hvk hX hwY
              simp (maxDischargeDepth := 8) only [go_sem, hw, sc.l, sc.c, sc.k, sc.o, hrat lC g1 e0]
              rcases e3 with ⟨e3, hMn⟩ | ⟨e3, hno⟩
              · simp (maxDischargeDepth := 8) only [go_sem, show decide (v0 < 0) = false from decide_eq_false (by omega), hw, sc.l, sc.c, sc.k, sc.o, hrat lC g1 e0]
                exact gfind_loop hH hv w1 w2 hw hhb hmm hmx hmy hmh oc kC lc (fun hh => hat hh) hvd e2 hMn
              · simp (maxDischargeDepth := 8) only [go_sem, show decide (v0 < 0) = true from decide_eq_true (by omega), hw, sc.l]
                have kb := (show Keep [] X.heap HC by rw [hH]; exact kC).back0 (u := none)
                rw [hH] at kb
                refine ⟨_, none, 2, .nils, [], 0, ?_, kb, Own.nil _, by simp [slFp], .inl ⟨rfl, rfl, rfl, fun _ w hp => hno w hp⟩⟩
                cases X with | mk a b c d e => cases e <;> rfl
theorem WayRes.same {W : Wd} {cl sz ax ay aw ah f1 f2 t1 t2 : Int} {N N' : Nat} {o o' c c' : Int} {l l' : List Cl} (h : WayRes W cl sz ax ay aw ah f1 f2 t1 t2 N o l c) (g : WayRes W cl sz ax ay aw ah f1 f2 t1 t2 N' o' l' c') : o = o' ∧ l = l' ∧ c = c' := by
  rcases h with ⟨rfl, rfl, rfl, h1⟩ | ⟨rfl, h1, h2, _, rfl⟩
  · rcases g with ⟨rfl, rfl, rfl, _⟩ | ⟨rfl, g1, g2, _, rfl⟩
    · exact ⟨rfl, rfl, rfl⟩
    · exact absurd g2.1 (h1 g1 _)
  · rcases g with ⟨rfl, rfl, rfl, g1⟩ | ⟨rfl, g1, g2, _, rfl⟩
    · exact absurd h2.1 (g1 h1 _)
    · obtain rfl := h2.uniq g2
      exact ⟨rfl, rfl, rfl⟩
theorem gfind_of {X : Mem} {v : SV} {W : Wd} {cl sz f1 f2 t1 t2 ax ay aw ah : Int} {z : Option (SV × Mem)} (hz : RF tb f_ref08_Ground_Find [grV W.w W.h v, cellV f1 f2, cellV t1 t2, rect ax ay aw ah] X = z) (hv : LiesD boolF (Hm X.heap) v (W.gr cl sz)) (w1 : 1 ≤ W.w ∧ W.w ≤ 128) (w2 : 1 ≤ W.h ∧ W.h ≤ 128) (hw : X.Wf) (hhb : X.hb ≤ X.hl) :
    ∃ H' u o v' l c, z = some (.tup [.agg [.int .i64 o, v'], .int .i64 c], (X.hp H').es (escMin X.esc u)) ∧ Keep [] X.heap H' ∧ Own cellF H' v' l ∧ (∀ i ∈ slFp v', X.heap.length ≤ i) ∧ WayRes W cl sz ax ay aw ah f1 f2 t1 t2 16384 o l c := by
  rw [← hz]
  exact r_ref08_Ground_Find hv w1 w2 hw hhb f1 f2 t1 t2 ax ay aw ah
section
variable {n : Nat} {st : Nat → Bool} {rt : Nat → Nat}
theorem cntF_mono {R : Nat → Nat → Prop} : ∀ {i j : Nat}, i ≤ j → cntF st R i ≤ cntF st R j := by
  intro i j h
  induction j with
  | zero => have : i = 0 := by omega
            subst this; exact Nat.le_refl _
  | succ j ih =>
    by_cases e : i = j + 1
    · subst e; exact Nat.le_refl _
    · have := ih (by omega)
      by_cases hf : Fst st R j
      · rw [cntF_fst hf]; omega
      · rw [cntF_no hf]; omega
/-- Different parts have different numbers. -/
theorem Canon.sep {f : Nat → Nat} (hf : Canon n st (fun x y => rt x = rt y) f) : ∀ k, (∀ i, i < k → i < n → st i = true → f i ≤ cntF st (fun x y => rt x = rt y) (i + 1)) ∧ (∀ i j, i < k → i < n → st i = true → j < i → st j = true → f j = f i → rt j = rt i) := by
  intro k
  induction k with
  | zero => exact ⟨fun i h => by omega, fun i j h => by omega⟩
  | succ k ih =>
    have one : ∀ i, i < k + 1 → i < n → st i = true → f i ≤ cntF st (fun x y => rt x = rt y) (i + 1) := fun i hi hn hs => by
      by_cases e : i < k
      · exact ih.1 i e hn hs
      · have : i = k := by omega
        subst this
        rcases (hf i hn).2 hs with ⟨j, h1, h2, h3, h4⟩ | ⟨h1, h2⟩
        · rw [h4]
          exact Nat.le_trans (ih.1 j h1 (by omega) h2) (cntF_mono (by omega))
        · rw [h2, cntF_fst ⟨hs, h1⟩]
          exact Nat.le_refl _
    refine ⟨one, fun i j hi hn hs hj hsj he => ?_⟩
    by_cases e : i < k
    · exact ih.2 i j e hn hs hj hsj he
    · have : i = k := by omega
      subst this
      rcases (hf i hn).2 hs with ⟨j', h1, h2, h3, h4⟩ | ⟨h1, h2⟩
      · have h3' : rt j' = rt i := h3
        rcases Nat.lt_trichotomy j j' with h | h | h
        · rw [← h3']; exact ih.2 j' j h1 (by omega) h2 h hsj (he.trans h4)
        · rw [h]; exact h3'
        · rw [← h3']; exact (ih.2 j j' hj (by omega) hsj h h2 (h4.symm.trans he.symm)).symm
      · have h5 := one j (by omega) (by omega) hsj
        have h6 := cntF_mono (st := st) (R := fun x y => rt x = rt y) (show j + 1 ≤ i by omega)
        omega
end
section
variable {W : Wd} {cl sz : Int}
def ixC (W : Wd) (x y : Int) : Nat := y.toNat * W.w.toNat + x.toNat
theorem ix_in (w1 : 1 ≤ W.w) {x y : Int} (h : 0 ≤ x ∧ x < W.w ∧ 0 ≤ y ∧ y < W.h) : ixC W x y < W.w.toNat * W.h.toNat ∧ ((ixC W x y % W.w.toNat : Nat) : Int) = x ∧ ((ixC W x y / W.w.toNat : Nat) : Int) = y := by
  have hw : 0 < W.w.toNat := by omega
  have e1 : ixC W x y % W.w.toNat = x.toNat := by
    unfold ixC; rw [Nat.mul_comm, Nat.mul_add_mod, Nat.mod_eq_of_lt (by omega)]
  have e2 : ixC W x y / W.w.toNat = y.toNat := by
    unfold ixC; rw [Nat.mul_comm, Nat.mul_add_div hw, Nat.div_eq_of_lt (by omega), Nat.add_zero]
  refine ⟨?_, by omega, by omega⟩
  have e4 : W.w.toNat * (y.toNat + 1) ≤ W.w.toNat * W.h.toNat := Nat.mul_le_mul_left _ (by omega)
  unfold ixC
  rw [Nat.mul_add, Nat.mul_one, Nat.mul_comm] at e4
  omega
theorem stI_ix (w1 : 1 ≤ W.w) {x y : Int} (h : 0 ≤ x ∧ x < W.w ∧ 0 ≤ y ∧ y < W.h) : stI W cl sz (ixC W x y) = W.stands cl sz x y := by
  obtain ⟨_, e1, e2⟩ := ix_in w1 h
  unfold stI
  rw [e1, e2]
/-- Side by side. -/
theorem link_x (w1 : 1 ≤ W.w) {x y : Int} (h1 : W.stands cl sz x y = true) (h2 : W.stands cl sz (x + 1) y = true) : Lnk (EL W cl sz (W.w.toNat * W.h.toNat)) (ixC W x y) (ixC W (x + 1) y) := by
  have b1 := stands_bx7 h1
  have b2 := stands_bx7 h2
  obtain ⟨c1, c2, c3⟩ := ix_in (W := W) w1 (x := x + 1) (y := y) (by omega)
  refine .step (.refl _) (.inr ⟨c1, (stI_ix w1 (by omega)).trans h2, (stI_ix w1 (by omega)).trans h1, .inl ⟨by omega, ?_⟩⟩)
  unfold ixC; omega
theorem link_y (w1 : 1 ≤ W.w) {x y : Int} (h1 : W.stands cl sz x y = true) (h2 : W.stands cl sz x (y + 1) = true) : Lnk (EL W cl sz (W.w.toNat * W.h.toNat)) (ixC W x y) (ixC W x (y + 1)) := by
  have b1 := stands_bx7 h1
  have b2 := stands_bx7 h2
  obtain ⟨c1, c2, c3⟩ := ix_in (W := W) w1 (x := x) (y := y + 1) (by omega)
  refine .step (.refl _) (.inr ⟨c1, (stI_ix w1 (by omega)).trans h2, (stI_ix w1 (by omega)).trans h1, .inr ?_⟩)
  unfold ixC
  rw [show (y + 1).toNat = y.toNat + 1 by omega, Nat.add_mul]; omega
theorem link_h (w1 : 1 ≤ W.w) {x y t : Int} (ht : t = 1 ∨ t = -1 ∨ t = 0) (h1 : W.stands cl sz x y = true) (h2 : W.stands cl sz (x + t) y = true) : Lnk (EL W cl sz (W.w.toNat * W.h.toNat)) (ixC W x y) (ixC W (x + t) y) := by
  rcases ht with rfl | rfl | rfl
  · exact link_x w1 h1 h2
  · have := link_x w1 (x := x + -1) h2 (by rw [show x + -1 + 1 = x by omega]; exact h1)
    rw [show x + -1 + 1 = x by omega] at this
    exact this.symm
  · rw [Int.add_zero]; exact .refl _
theorem link_v (w1 : 1 ≤ W.w) {x y t : Int} (ht : t = 1 ∨ t = -1 ∨ t = 0) (h1 : W.stands cl sz x y = true) (h2 : W.stands cl sz x (y + t) = true) : Lnk (EL W cl sz (W.w.toNat * W.h.toNat)) (ixC W x y) (ixC W x (y + t)) := by
  rcases ht with rfl | rfl | rfl
  · exact link_y w1 h1 h2
  · have := link_y w1 (y := y + -1) h2 (by rw [show y + -1 + 1 = y by omega]; exact h1)
    rw [show y + -1 + 1 = y by omega] at this
    exact this.symm
  · rw [Int.add_zero]; exact .refl _
theorem turn3 (d : Int) : (turnX d = 1 ∨ turnX d = -1 ∨ turnX d = 0) ∧ (turnY d = 1 ∨ turnY d = -1 ∨ turnY d = 0) := by
  have := turn_lo d
  omega
theorem link_step (w1 : 1 ≤ W.w) {x y d : Int} (h : W.steps cl sz x y d = true) : Lnk (EL W cl sz (W.w.toNat * W.h.toNat)) (ixC W x y) (ixC W (x + turnX d) (y + turnY d)) := by
  simp only [Wd.steps, Bool.and_eq_true, Bool.or_eq_true, Bool.not_eq_true'] at h
  obtain ⟨⟨⟨h1, h2⟩, h3⟩, h4⟩ := h
  have hd := isDir_in (step_in h1).1
  have ht := turn3 d
  rcases h4 with h4 | ⟨h5, h6⟩
  · have hd4 : d < 4 := by
      simp only [sideOk, h1, Bool.true_and, decide_eq_false_iff_not] at h4; omega
    have : d = 0 ∨ d = 1 ∨ d = 2 ∨ d = 3 := by omega
    rcases this with rfl | rfl | rfl | rfl
    · have : y + turnY 0 = y := by show y + 0 = y; omega
      rw [this] at h3 ⊢; exact link_h w1 ht.1 h2 h3
    · have : x + turnX 1 = x := by show x + 0 = x; omega
      rw [this] at h3 ⊢; exact link_v w1 ht.2 h2 h3
    · have : y + turnY 2 = y := by show y + 0 = y; omega
      rw [this] at h3 ⊢; exact link_h w1 ht.1 h2 h3
    · have : x + turnX 3 = x := by show x + 0 = x; omega
      rw [this] at h3 ⊢; exact link_v w1 ht.2 h2 h3
  · exact (link_h w1 ht.1 h2 h5).trans (link_v w1 ht.2 h5 h3)
theorem pth_link (w1 : 1 ≤ W.w) {s c : Cl} {v : Int} (h : Pth (okR W cl sz 0 0 W.w W.h) s c v) : Lnk (EL W cl sz (W.w.toNat * W.h.toNat)) (ixC W s.1 s.2) (ixC W c.1 c.2) := by
  induction h with
  | nil => exact .refl _
  | step _ hk ih =>
    simp only [okR, okS, Bool.and_eq_true] at hk
    exact ih.trans (link_step w1 hk.1.2)
theorem cell_left {w b : Nat} (hw : 0 < w) (h : b % w ≠ 0) : (b - 1) % w = b % w - 1 ∧ (b - 1) / w = b / w := by
  have e := Nat.div_add_mod b w
  have hl := Nat.mod_lt b hw
  have e2 : b - 1 = w * (b / w) + (b % w - 1) := by omega
  constructor
  · rw [e2, Nat.mul_add_mod, Nat.mod_eq_of_lt (by omega)]
  · rw [e2, Nat.mul_add_div hw, Nat.div_eq_of_lt (show b % w - 1 < w by omega), Nat.add_zero]
theorem cell_up {w b : Nat} (hw : 0 < w) (h : w ≤ b) : (b - w) % w = b % w ∧ (b - w) / w = b / w - 1 ∧ 1 ≤ b / w := by
  refine ⟨(Nat.mod_eq_sub_mod h).symm, ?_, Nat.div_pos h hw⟩
  rw [Nat.div_eq_sub_div hw h, Nat.add_sub_cancel]
theorem side_ok (w1 : 1 ≤ W.w ∧ W.w ≤ 128) (w2 : 1 ≤ W.h ∧ W.h ≤ 128) {x y d : Int} (hd : 0 ≤ d ∧ d < 4) (h1 : W.stands cl sz x y = true) (h2 : W.stands cl sz (x + turnX d) (y + turnY d) = true) : okR W cl sz 0 0 W.w W.h (x, y) d = true := by
  have b1 := stands_bx7 h1
  have b2 := stands_bx7 h2
  have p1 : hasB 0 0 W.w W.h x y = true := (has_w w1 w2).2 (by omega)
  have p2 : hasB 0 0 W.w W.h (x + turnX d) (y + turnY d) = true := (has_w w1 w2).2 (by omega)
  have p3 : stepOk x y d = true := by
    simp only [stepOk, isDir, nearC, nearP, Bool.and_eq_true, decide_eq_true_eq]
    omega
  have p4 : sideOk x y d = false := by simp only [sideOk, p3, Bool.true_and, decide_eq_false_iff_not]; omega
  simp only [okR, okS, mvC, Wd.steps, p1, p2, p3, p4, h1, h2, Bool.not_false, Bool.true_or, Bool.and_self]
def cellI (W : Wd) (i : Nat) : Cl := (((i % W.w.toNat : Nat) : Int), ((i / W.w.toNat : Nat) : Int))
theorem link_pth (w1 : 1 ≤ W.w ∧ W.w ≤ 128) (w2 : 1 ≤ W.h ∧ W.h ≤ 128) {a c : Nat} (h : Lnk (EL W cl sz (W.w.toNat * W.h.toNat)) a c) : ∃ v, Pth (okR W cl sz 0 0 W.w W.h) (cellI W a) (cellI W c) v := by
  have hw : 0 < W.w.toNat := by omega
  induction h with
  | refl => exact ⟨0, .nil⟩
  | @step b c hbc e ih =>
    obtain ⟨v, hp⟩ := ih
    have fin : ∀ d, 0 ≤ d ∧ d < 4 → stI W cl sz b = true → stI W cl sz c = true → cellI W c = mvC (cellI W b) d → ∃ v, Pth (okR W cl sz 0 0 W.w W.h) (cellI W a) (cellI W c) v := fun d hd s1 s2 he => by
      have hk := side_ok w1 w2 hd (x := (cellI W b).1) (y := (cellI W b).2) s1 (by
        have := congrArg Prod.fst he
        have h2 := congrArg Prod.snd he
        simp only [mvC] at this h2
        rw [← this, ← h2]; exact s2)
      exact ⟨_, by rw [he]; exact .step hp hk⟩
    rcases e with ⟨_, s1, s2, e⟩ | ⟨_, s1, s2, e⟩
    · rcases e with ⟨e1, e2⟩ | e1
      · obtain ⟨q1, q2⟩ := cell_left hw e1
        refine fin 2 (by omega) s1 s2 ?_
        have : c = b - 1 := by omega
        subst this
        simp only [cellI, mvC, q1, q2]
        exact Prod.ext (show _ = _ + (-1 : Int) by dsimp only; omega) (show _ = _ + (0 : Int) by dsimp only; omega)
      · obtain ⟨q1, q2, q3⟩ := cell_up hw (b := b) (by omega)
        refine fin 3 (by omega) s1 s2 ?_
        have : c = b - W.w.toNat := by omega
        subst this
        simp only [cellI, mvC, q1, q2]
        exact Prod.ext (show _ = _ + (0 : Int) by dsimp only; omega) (show _ = _ + (-1 : Int) by dsimp only; omega)
    · rcases e with ⟨e1, e2⟩ | e1
      · obtain ⟨q1, q2⟩ := cell_left hw e1
        refine fin 0 (by omega) s2 s1 ?_
        have : b = c - 1 := by omega
        subst this
        simp only [cellI, mvC, q1, q2]
        exact Prod.ext (show _ = _ + (1 : Int) by dsimp only; omega) (show _ = _ + (0 : Int) by dsimp only; omega)
      · obtain ⟨q1, q2, q3⟩ := cell_up hw (b := c) (by omega)
        refine fin 1 (by omega) s2 s1 ?_
        have : b = c - W.w.toNat := by omega
        subst this
        simp only [cellI, mvC, q1, q2]
        exact Prod.ext (show _ = _ + (0 : Int) by dsimp only; omega) (show _ = _ + (1 : Int) by dsimp only; omega)
/-- What the labels tell. -/
theorem at_st {rt : Nat → Nat} {cf : Nat → Int × Int} {L : List Nat} {F : List (Int × Int)} {Z : List Nat} {num : Nat → Nat} (w1 : 1 ≤ W.w ∧ W.w ≤ 128) (w2 : 1 ≤ W.h ∧ W.h ≤ 128) (h : Lab (W.w.toNat * W.h.toNat) (stI W cl sz) rt cf (W.w.toNat * W.h.toNat) L F Z num) (x y : Int) : decide (0 < atP W L x y) = W.stands cl sz x y := by
  unfold atP
  cases hs : W.stands cl sz x y with
  | true =>
    have b1 := stands_bx7 hs
    obtain ⟨c1, _, _⟩ := ix_in (W := W) w1.1 (x := x) (y := y) (by omega)
    rw [if_pos (show hasB 0 0 W.w W.h x y = true from (has_w w1 w2 (W := W)).2 (by omega))]
    have := h.nu (ixC W x y) c1 ((stI_ix w1.1 (by omega)).trans hs)
    unfold ixC at this
    rw [this.2]
    exact decide_eq_true (by omega)
  | false =>
    split
    · rename_i hh
      have b1 := (has_w w1 w2 (W := W)).1 hh
      obtain ⟨c1, _, _⟩ := ix_in (W := W) w1.1 (x := x) (y := y) (by omega)
      have := (h.ca (ixC W x y) c1).1 ((stI_ix w1.1 (by omega)).trans hs)
      unfold ixC at this
      dsimp only at this
      rw [this]; rfl
    · rfl
theorem at_eq {rt : Nat → Nat} {cf : Nat → Int × Int} {L : List Nat} {F : List (Int × Int)} {Z : List Nat} {num : Nat → Nat} (w1 : 1 ≤ W.w ∧ W.w ≤ 128) (w2 : 1 ≤ W.h ∧ W.h ≤ 128) (h : Lab (W.w.toNat * W.h.toNat) (stI W cl sz) rt cf (W.w.toNat * W.h.toNat) L F Z num) {x y a b : Int} (h1 : W.stands cl sz x y = true) (h2 : W.stands cl sz a b = true) : atP W L x y = atP W L a b ↔ rt (ixC W x y) = rt (ixC W a b) := by
  have b1 := stands_bx7 h1
  have b2 := stands_bx7 h2
  obtain ⟨c1, _, _⟩ := ix_in (W := W) w1.1 (x := x) (y := y) (by omega)
  obtain ⟨c2, _, _⟩ := ix_in (W := W) w1.1 (x := a) (y := b) (by omega)
  have s1 : stI W cl sz (ixC W x y) = true := (stI_ix w1.1 (by omega)).trans h1
  have s2 : stI W cl sz (ixC W a b) = true := (stI_ix w1.1 (by omega)).trans h2
  have e1 : atP W L x y = L.getD (ixC W x y) 0 := by unfold atP; rw [if_pos (show hasB 0 0 W.w W.h x y = true from (has_w w1 w2 (W := W)).2 (by omega))]; rfl
  have e2 : atP W L a b = L.getD (ixC W a b) 0 := by unfold atP; rw [if_pos (show hasB 0 0 W.w W.h a b = true from (has_w w1 w2 (W := W)).2 (by omega))]; rfl
  rw [e1, e2]
  generalize ixC W x y = i at *
  generalize ixC W a b = j at *
  constructor
  · intro he
    have hsep := (Canon.sep h.ca (W.w.toNat * W.h.toNat)).2
    rcases Nat.lt_trichotomy i j with hij | hij | hij
    · exact hsep j i c2 c2 s2 hij s1 he
    · rw [hij]
    · exact (hsep i j c1 c1 s1 hij s2 he.symm).symm
  · intro he
    rw [(h.nu i c1 s1).2, (h.nu j c2 s2).2, he]
/-- Joined tells whether a way leads there. -/
theorem joined_way {rt : Nat → Nat} {cf : Nat → Int × Int} {L : List Nat} {F : List (Int × Int)} {Z : List Nat} {num : Nat → Nat} (w1 : 1 ≤ W.w ∧ W.w ≤ 128) (w2 : 1 ≤ W.h ∧ W.h ≤ 128) (h : Lab (W.w.toNat * W.h.toNat) (stI W cl sz) rt cf (W.w.toNat * W.h.toNat) L F Z num) (hr : ∀ x y, x < W.w.toNat * W.h.toNat → y < W.w.toNat * W.h.toNat → (rt x = rt y ↔ Lnk (EL W cl sz (W.w.toNat * W.h.toNat)) x y)) {f1 f2 t1 t2 : Int} {N : Nat} {o c : Int} {l : List Cl} (hR : WayRes W cl sz 0 0 W.w W.h f1 f2 t1 t2 N o l c) : (decide (0 < atP W L f1 f2) && decide (atP W L f1 f2 = atP W L t1 t2)) = (o == 1) := by
  rw [at_st w1 w2 h]
  have ho : o = 1 ∨ o = 2 := by rcases hR with ⟨h, _⟩ | ⟨h, _⟩ <;> simp [h]
  cases hf : W.stands cl sz f1 f2 with
  | false =>
    have : o = 2 := by
      rcases hR with ⟨h, _⟩ | ⟨_, hv, _⟩
      · exact h
      · simp only [Vd, hf, Bool.and_false, Bool.false_and] at hv; cases hv
    subst this; rfl
  | true =>
    rw [Bool.true_and]
    have hpos := at_st w1 w2 h f1 f2
    rw [hf, decide_eq_true_eq] at hpos
    have b1 := stands_bx7 hf
    obtain ⟨c1, d1, d2⟩ := ix_in (W := W) w1.1 (x := f1) (y := f2) (by omega)
    cases ht : W.stands cl sz t1 t2 with
    | false =>
      have h0 := at_st w1 w2 h t1 t2
      rw [ht, decide_eq_false_iff_not] at h0
      have : o = 2 := by
        rcases hR with ⟨h, _⟩ | ⟨_, hv, _⟩
        · exact h
        · simp only [Vd, ht, Bool.and_false] at hv; cases hv
      subst this
      rw [decide_eq_false (by omega)]; rfl
    | true =>
      have b2 := stands_bx7 ht
      obtain ⟨c2, d3, d4⟩ := ix_in (W := W) w1.1 (x := t1) (y := t2) (by omega)
      have hvd : Vd W cl sz 0 0 W.w W.h f1 f2 t1 t2 = true := by
        have p1 : hasB 0 0 W.w W.h f1 f2 = true := (has_w w1 w2).2 (by omega)
        have p2 : hasB 0 0 W.w W.h t1 t2 = true := (has_w w1 w2).2 (by omega)
        simp only [Vd, hf, ht, p1, p2, Bool.and_self]
      rcases hR with ⟨rfl, _, _, hno⟩ | ⟨rfl, _, hm, _⟩
      · rw [decide_eq_false]
        · rfl
        · intro he
          have hl := (hr _ _ c1 c2).1 ((at_eq w1 w2 h hf ht).1 he)
          obtain ⟨v, hp⟩ := link_pth w1 w2 hl.symm
          unfold cellI at hp
          rw [d1, d2, d3, d4] at hp
          exact hno hvd v hp
      · rw [decide_eq_true]
        · rfl
        · refine (at_eq w1 w2 h hf ht).2 ((hr _ _ c1 c2).2 ?_)
          exact (pth_link w1.1 hm.1).symm
end
theorem parts_new0 (X : Mem) (hw : X.Wf) (cl sz : Int) : RF tb f_parts_New [.nilp, .agg [.int .i64 cl, .int .i64 sz]] X = some (.tup [.nilp, .int .i64 1], X) := by
  rw [RF_go t_parts_New _ _ rfl]
  simp (maxDischargeDepth := 8) only [go_sem, s_parts_New, hw, r_clear_New0, show ((1 : Int) != 0) = true from by decide]
theorem parts_new_no {X : Mem} {p : WP} {W : Wd} (hO : WorldOwn X.heap p W) (hg : W.Good) (hw : X.Wf) (hhb : X.hb ≤ X.hl) (cl sz : Int) (hm : mayS cl sz = false) : ∃ H' u, RF tb f_parts_New [.ptr (.hp p.k 0) 0, .agg [.int .i64 cl, .int .i64 sz]] X = some (.tup [.nilp, .int .i64 1], (X.hp H').es (escMin X.esc u)) ∧ Keep [] X.heap H' := by
  rw [RF_go t_parts_New _ _ rfl, push_hp]
  generalize hH : X.heap = H at *
  have hHl : X.hl = H.length := by rw [← hH]; rfl
  simp (maxDischargeDepth := 8) only [go_sem, s_parts_New, hw, hH]
  by_cases hc : 0 ≤ cl ∧ cl < 4
  · generalize hz : RF tb f_clear_New _ _ = z
    obtain ⟨kf, flv, H1, rfl, hF, k1⟩ := new_of hz (show WorldOwn H p W from hO) hg (fr_wf (hp_wf hw) _ _) (by show X.hb ≤ H.length; omega) hc
    have k1' : Keep [] H H1 := k1
    simp (maxDischargeDepth := 8) only [go_sem, hw, hm, r_class_May, show ((0 : Int) != 0) = false from by decide]
    have kt := (show Keep [] X.heap H1 by rw [hH]; exact k1').back0 (u := none)
    rw [hH] at kt
    simp only [escOk_none, if_true] at kt
    refine ⟨_, none, ?_, kt⟩
    rw [show escMin X.esc none = X.esc by cases X.esc <;> rfl]
    rfl
  · have hn := fun f e => r_clear_New_no (m := Hm H) (X := (X.hp H).fr f e) hO.at_ hc (hpsub_refl _) (fr_wf (hp_wf hw) f e)
    simp (maxDischargeDepth := 8) only [go_sem, hw, hn, show ((1 : Int) != 0) = true from by decide]
    refine ⟨H, none, ?_, Keep.refl _ _⟩
    rw [show escMin X.esc none = X.esc by cases X.esc <;> rfl, ← hH]
    rw [show List.take X.hl X.heap = X.heap from List.take_length]
    rfl
theorem parts_new_of {X : Mem} {p : WP} {W : Wd} {cl sz : Int} {z : Option (SV × Mem)} (hz : RF tb f_parts_New [.ptr (.hp p.k 0) 0, .agg [.int .i64 cl, .int .i64 sz]] X = z) (hO : WorldOwn X.heap p W) (hg : W.Good) (hw : X.Wf) (hhb : X.hb ≤ X.hl) :
    (mayS cl sz = false ∧ ∃ H' u, z = some (.tup [.nilp, .int .i64 1], (X.hp H').es (escMin X.esc u)) ∧ Keep [] X.heap H') ∨ (mayS cl sz = true ∧ NewP X p W cl sz z) := by
  subst hz
  cases hm : mayS cl sz with
  | false => exact .inl ⟨rfl, parts_new_no hO hg hw hhb cl sz hm⟩
  | true => exact .inr ⟨rfl, r_parts_New hO hg hw hhb cl sz hm (mayS_in.1 hm).1 (mayS_in.1 hm).2⟩
theorem r_law08_PartsJoined {X : Mem} {tv bv : SV} {tiles : List Int} {bl : List Bld} (hm : MapIn X tv bv tiles bl) (hw : X.Wf) (hhb : X.hb ≤ X.hl) (w hh cl sz f1 f2 t1 t2 : Int) : ∃ m', RF tb f_law08_PartsJoined [.agg [.int .i64 w, .int .i64 hh, tv, bv], .agg [.int .i64 cl, .int .i64 sz], .agg [.int .i64 f1, .int .i64 f2, .int .i64 t1, .int .i64 t2]] X = some (.bool true, m') := by
  rw [RF_go t_law08_PartsJoined _ _ rfl, push_hp]
  simp (maxDischargeDepth := 8) only [go_sem, s_law08_PartsJoined, hw, hm.t.cell, hm.b.cell]
  generalize hz : RF tb f_law06_Both _ _ = z
  rcases both_of hz ⟨hm.t, hm.g, hm.b, hm.n⟩ (by simp (maxDischargeDepth := 8) only [go_sem, hw]) hhb with ⟨H', u, rfl, k⟩ | ⟨H', u, p, q, rfl, hO, hR, hg, k, -, -⟩
  · have hl : X.hb ≤ H'.length := by have := k.1; exact Nat.le_trans hhb this
    simp (maxDischargeDepth := 8) only [go_sem, hw, parts_new0]
    generalize hz : RF tb f_law08_awake _ _ = z
    obtain ⟨H', u, rfl, -⟩ := aw08 hz (by simp (maxDischargeDepth := 8) only [go_sem, hw]) hl
    simp (maxDischargeDepth := 8) only [go_sem, hw]
    exact ⟨_, rfl⟩
  · have hl : X.hb ≤ H'.length := by have := k.1; exact Nat.le_trans hhb this
    obtain ⟨hwm, hw1, hw2⟩ := wrap_mul hO.at_.w1 hO.at_.h1
    have w1 := hO.at_.w1
    have w2 := hO.at_.h1
    dsimp only at hwm w1 w2
    simp (maxDischargeDepth := 8) only [go_sem, hw]
    generalize hz : RF tb f_parts_New _ _ = z
    rcases parts_new_of hz (show WorldOwn H' p _ from hO) hg (fr_wf (hp_wf hw) _ _) hl with ⟨hms, H1, u1, rfl, k1⟩ | ⟨hms, H1, kp, L, F, Z, num, rt, u1, rfl, hP, hB, hr, k1, -⟩
    · have k1' : Keep [] H' H1 := k1
      have hl1 : X.hb ≤ H1.length := Nat.le_trans hl k1'.1
      simp (maxDischargeDepth := 8) only [go_sem, hw, show ((1 : Int) != 0) = true from by decide]
      generalize hz : RF tb f_law08_awake _ _ = z
      obtain ⟨H', u, rfl, -⟩ := aw08 hz (by simp (maxDischargeDepth := 8) only [go_sem, hw]) hl1
      simp (maxDischargeDepth := 8) only [go_sem, hw]
      exact ⟨_, rfl⟩
    · have k1' : Keep [] H' H1 := k1
      have hl1 : X.hb ≤ H1.length := Nat.le_trans hl k1'.1
      simp (maxDischargeDepth := 8) only [go_sem, hw, show ((0 : Int) != 0) = false from by decide, hwm]
      cases hgt : decide (w * hh > 700) with
      | true =>
        simp (maxDischargeDepth := 8) only [go_sem, hw]
        generalize hz : RF tb f_law08_awake _ _ = z
        obtain ⟨H', u, rfl, -⟩ := aw08 hz (by simp (maxDischargeDepth := 8) only [go_sem, hw]) hl1
        simp (maxDischargeDepth := 8) only [go_sem, hw]
        exact ⟨_, rfl⟩
      | false =>
        simp (maxDischargeDepth := 8) only [go_sem, hw]
        have hR1 := hR.keep k1' (by simp)
        generalize hz : RF tb f_ref08_Of _ _ = z
        obtain ⟨gv, H2, rfl, og, fg, k2⟩ := gr_of (cl := cl) (sz := sz) hz hR1 (fun _ _ => rfl) hg (fr_wf (hp_wf hw) _ _) hl1
        change Keep [] H1 H2 at k2
        have sg := og.isSl boolF_even
        have hl2 : X.hb ≤ H2.length := Nat.le_trans hl1 k2.1
        have hA := (hR1.keep k2 (by simp)).at_
        simp (maxDischargeDepth := 8) only [go_sem, hw, grV, sg.l, sg.c, sg.k, sg.o, r_ref04_All hA, show inB 0 2 = true from by decide, show inB 1 2 = true from by decide]
        generalize hz : RF tb f_ref08_Ground_Find _ _ = z
        obtain ⟨H3, u3, o2, v2, l2, c2, rfl, k3, ow2, fp2, r2⟩ := gfind_of (X := (X.hp H2).fr [.cells true [.int .i64 w, .int .i64 hh, tv, bv], .cells true [.int .i64 cl, .int .i64 sz], .cells true [.int .i64 f1, .int .i64 f2, .int .i64 t1, .int .i64 t2], .cells true [.int .i64 w, .int .i64 hh, gv]] (escMin u u1)) (W := ⟨w, hh, tiles, bl, []⟩) (cl := cl) (sz := sz) (f1 := f1) (f2 := f2) (t1 := t1) (t2 := t2) (ax := 0) (ay := 0) (aw := w) (ah := hh) hz (og.lies boolF_even) w1 w2 (fr_wf (hp_wf hw) _ _) hl2
        change Keep [] H2 H3 at k3
        have s2 := ow2.isSl cellF_even
        have hl3 : X.hb ≤ H3.length := Nat.le_trans hl2 k3.1
        have hP3 : PA (Hm H3) kp ⟨w, hh, tiles, bl, []⟩ L F Z := hP.sub (k2.trans k3).sub
        have hgl := (og.keep k3 (by simp)).lies boolF_even
        have hJ := fun {Y : Mem} (hY : HpSub (Hm H3) Y) (hwY : Y.Wf) (x y a b : Int) => r_parts_Joined hP3 hY hwY x y a b
        have hSt := fun {Y : Mem} (hY : HpSub (Hm H3) Y) (hwY : Y.Wf) (x y : Int) => r_ref08_Ground_Stands (W := ⟨w, hh, tiles, bl, []⟩) hgl w1 w2 hY hwY x y
        unfold cellV at hJ hSt
        unfold grV at hSt
        have j1 := joined_way w1 w2 hB hr r2
        have j2 : ∀ p q : Nat, (decide (0 < q) && decide (q = p)) = (decide (0 < p) && decide (p = q)) := fun p q => by
          by_cases e : p = q
          · subst e; rfl
          · have e' : ¬ q = p := fun h => e h.symm
            simp only [e, e', decide_false, Bool.and_false]
        have j1' := (j2 (atP ⟨w, hh, tiles, bl, []⟩ L f1 f2) (atP ⟨w, hh, tiles, bl, []⟩ L t1 t2)).trans j1
        have j3 := at_st w1 w2 hB f1 f2
        rw [j3] at j1
        have sb : ∀ a : Bool, (a == a) = true := fun a => by cases a <;> rfl
        simp (maxDischargeDepth := 8) only [go_sem, hw, s2.l, s2.c, s2.k, s2.o, sg.l, sg.c, sg.k, sg.o, show inB 0 2 = true from by decide, show inB 1 2 = true from by decide, hJ, hSt, j1, j1', j3, sb]
        generalize hz : RF tb f_law08_awake _ _ = z
        obtain ⟨H', u, rfl, -⟩ := aw08 hz (by simp (maxDischargeDepth := 8) only [go_sem, hw]) hl3
        simp (maxDischargeDepth := 8) only [go_sem, hw]
        exact ⟨_, rfl⟩
section
open Go.RowKit Go.WideShapes
theorem law08_PartsJoined {P : Program} {e e' : TypeId} {okB : Bl' → Prop} (a : MT) (s : Int × Int) (c : List (Int × Int)) (hc : c.length = 2) (h1 : slOk P e (inR .u8) a.2.2.1) (h2 : slOk P e' okB a.2.2.2) (hB : P.bytesOf e' = 40) {n0 n1 n2 : In} (e0 : n0.map (·.2) = rdM.blks a 0) : ∃ m', RF tb f_law08_PartsJoined [.agg (rdM.cells a 0), .agg [.int .i64 s.1, .int .i64 s.2], .agg (c.flatMap cellF.enc)] (In.mem ([] ++ n0 ++ n1 ++ n2)) = some (.bool true, m') := by
  rw [rdM_blks] at e0
  rw [rdM_cells, List.append_assoc ([] ++ n0)]
  obtain ⟨x, y, rfl⟩ : ∃ x y, c = [x, y] := by
    match c, hc with
    | [x, y], _ => exact ⟨x, y, rfl⟩
  exact r_law08_PartsJoined (mapIn_of (pre := []) h1 h2 hB e0) (In.wf _) (Nat.zero_le _) _ _ _ _ _ _ _ _
end
end Go.Sh.T
