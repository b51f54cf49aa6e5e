import Derived.Test.YtepecbjlfekkaaaShWPartsLabelsb
import Derived.Test.YtepecbjlfekkaaaShArg
set_option linter.all false
set_option linter.unusedVariables false
set_option linter.unusedSimpArgs false
set_option autoImplicit false
namespace Go.Sh.T
open Go.Sh
set_option maxHeartbeats 8000000
set_option maxRecDepth 20000
def nbC (W : Wd) (cl sz : Int) (c d : Nat) : Option Nat := if W.steps cl sz ((c % W.w.toNat : Nat) : Int) ((c / W.w.toNat : Nat) : Int) (d : Int) = true then some (ixC W (((c % W.w.toNat : Nat) : Int) + turnX d) (((c / W.w.toNat : Nat) : Int) + turnY d)) else none
theorem ix_cell {W : Wd} (i : Nat) : ixC W ((i % W.w.toNat : Nat) : Int) ((i / W.w.toNat : Nat) : Int) = i := by
  unfold ixC
  rw [Int.toNat_natCast, Int.toNat_natCast, Nat.mul_comm]
  exact Nat.div_add_mod i W.w.toNat
theorem nb_ok {W : Wd} {cl sz : Int} {rt : Nat → Nat} (w1 : 1 ≤ W.w ∧ W.w ≤ 128) (w2 : 1 ≤ W.h ∧ W.h ≤ 128) (hr : ∀ x y, x < W.w.toNat * W.h.toNat → y < W.w.toNat * W.h.toNat → (rt x = rt y ↔ Lnk (EL W cl sz (W.w.toNat * W.h.toNat)) x y)) : NbOk (W.w.toNat * W.h.toNat) (stI W cl sz) rt (nbC W cl sz) := by
  have hw : 0 < W.w.toNat := by omega
  refine ⟨fun c d b hc h => ?_, fun P a b ha hb hab hPa hcl hsa hsb => ?_⟩
  · unfold nbC at h
    split at h
    · rename_i hs
      simp only [Option.some.injEq] at h
      have hl := link_step (cl := cl) (sz := sz) w1.1 hs
      rw [h, ix_cell] at hl
      simp only [Wd.steps, Bool.and_eq_true] at hs
      have b2 := stands_bx7 hs.1.2
      obtain ⟨q1, q2, q3⟩ := ix_in (W := W) w1.1 b2
      rw [h] at q1
      refine ⟨hs.1.1.2, ?_, q1, (hr _ _ hc q1).2 hl⟩
      rw [← h]
      exact (stI_ix w1.1 b2).trans hs.1.2
    · cases h
  · have hl := (hr a b ha hb).1 hab
    have one : ∀ x y d, (d : Nat) < 4 → x < W.w.toNat * W.h.toNat → P x → stI W cl sz x = true → stI W cl sz y = true → cellI W y = mvC (cellI W x) d → P y := fun x y d hd hx hP s1 s2 he => by
      have h1 := congrArg Prod.fst he
      have h2 := congrArg Prod.snd he
      simp only [mvC, cellI] at h1 h2
      have hk := side_ok (W := W) (cl := cl) (sz := sz) w1 w2 (d := (d : Int)) (by omega) (x := (cellI W x).1) (y := (cellI W x).2) s1 (by
        show W.stands cl sz _ _ = true
        simp only [cellI]
        rw [← h1, ← h2]; exact s2)
      simp only [okR, okS, Bool.and_eq_true] at hk
      refine hcl x d y (by omega) hx hP ?_
      unfold nbC
      rw [if_pos (show W.steps cl sz ((x % W.w.toNat : Nat) : Int) ((x / W.w.toNat : Nat) : Int) (d : Int) = true from hk.1.2), ← h1, ← h2, ix_cell]
    have key : ∀ {x y}, Lnk (EL W cl sz (W.w.toNat * W.h.toNat)) x y → P x → P y := fun {x y} h => by
      induction h with
      | refl => exact id
      | @step b c hbc e ih =>
        intro hx
        have hPb := ih hx
        rcases e with ⟨k1, s1, s2, e⟩ | ⟨k1, s1, s2, e⟩
        · rcases e with ⟨e1, e2⟩ | e1
          · obtain ⟨q1, q2⟩ := cell_left hw e1
            have : c = b - 1 := by omega
            subst this
            refine one b _ 2 (by omega) k1 hPb s1 s2 ?_
            simp only [cellI, mvC, q1, q2]
            exact Prod.ext (show _ = _ + (-1 : Int) by dsimp only; omega) (show _ = _ + (0 : Int) by dsimp only; omega)
          · obtain ⟨q1, q2, q3⟩ := cell_up hw (b := b) (by omega)
            have : c = b - W.w.toNat := by omega
            subst this
            refine one b _ 3 (by omega) k1 hPb s1 s2 ?_
            simp only [cellI, mvC, q1, q2]
            exact Prod.ext (show _ = _ + (0 : Int) by dsimp only; omega) (show _ = _ + (-1 : Int) by dsimp only; omega)
        · rcases e with ⟨e1, e2⟩ | e1
          · obtain ⟨q1, q2⟩ := cell_left hw e1
            have : b = c - 1 := by omega
            subst this
            refine one _ c 0 (by omega) (by omega) hPb s2 s1 ?_
            simp only [cellI, mvC, q1, q2]
            exact Prod.ext (show _ = _ + (1 : Int) by dsimp only; omega) (show _ = _ + (0 : Int) by dsimp only; omega)
          · obtain ⟨q1, q2, q3⟩ := cell_up hw (b := c) (by omega)
            have : b = c - W.w.toNat := by omega
            subst this
            refine one _ c 1 (by omega) (by omega) hPb s2 s1 ?_
            simp only [cellI, mvC, q1, q2]
            exact Prod.ext (show _ = _ + (0 : Int) by dsimp only; omega) (show _ = _ + (1 : Int) by dsimp only; omega)
    exact key hl hPa
def zc : List Nat → Nat
  | [] => 0
  | x :: l => (if x = 0 then 1 else 0) + zc l
theorem zc_le : ∀ l : List Nat, zc l ≤ l.length := by
  intro l
  induction l with
  | nil => exact Nat.le_refl _
  | cons x l ih => simp only [zc, List.length_cons]; split <;> omega
theorem zc_set : ∀ (l : List Nat) (b m : Nat), b < l.length → l.getD b 0 = 0 → m ≠ 0 → zc (l.set b m) + 1 = zc l := by
  intro l
  induction l with
  | nil => intro b m h; simp at h
  | cons x l ih =>
    intro b m h h0 hm
    cases b with
    | zero =>
      have hx : x = 0 := h0
      simp only [List.set_cons_zero, zc, hx, if_neg hm, if_true]
      omega
    | succ b =>
      have := ih b m (by simp at h; omega) h0 hm
      simp only [List.set_cons_succ, zc]
      omega
theorem own_popC {H : Hp} {v : SV} {l : List (Int × Int)} {x : Int × Int} (ow : Own cellF H v (l ++ [x])) (cp : capL v = true) : sliceV 2 v none (some (l.length : Int)) none = some (takeV l.length v) ∧ Own cellF H (takeV l.length v) l ∧ slFp (takeV l.length v) = slFp v ∧ capL (takeV l.length v) = true := by
  rcases ow with ⟨rfl, h⟩ | ⟨rfl, h⟩ | ⟨k, w, off, cap, c, rfl, h1, h2, h3⟩
  · simp at h
  · simp at h
  · have hlen : (l ++ [x]).length = l.length + 1 := by simp
    rw [hlen] at cp h2 h3 ⊢
    have hq : l.length ≤ cap.getD (l.length + 1) := by
      cases cap with
      | none => simp
      | some q => simp only [capL, decide_eq_true_eq] at cp; simp only [Option.getD_some]; omega
    have hz : cellF.sz = 2 := rfl
    rw [hz] at h2 h3
    refine ⟨?_, .inr (.inr ⟨k, w, off, cap, c, rfl, h1, by rw [hz]; omega, ?_⟩), rfl, ?_⟩
    · have a1 : (0 : Int) ≤ (l.length : Int) ∧ (l.length : Int) ≤ (cap.getD (l.length + 1) : Nat) := by omega
      simp only [sliceV, bnds, hz, if_true, if_pos a1, Option.map_some, takeV, Int.toNat_natCast, Nat.zero_mul, Nat.add_zero, Nat.sub_zero]
    · rw [hz]
      have := congrArg (List.take (l.length * 2)) h3
      rw [List.take_take, Nat.min_eq_left (by omega)] at this
      rw [this, List.flatMap_append, List.take_append_of_le_length (by rw [flat_len cellF_even]; exact Nat.le_refl _), ← hz, ← flat_len cellF_even, List.take_length]
    · cases cap with
      | none => rfl
      | some q => simp only [capL, decide_eq_true_eq] at cp ⊢; simp only [takeV, capL, decide_eq_true_eq]; omega
theorem r_ref08_Labels {X : Mem} {v : SV} {W : Wd} {cl sz : Int} {rt : Nat → Nat} (hv : LiesD boolF (Hm X.heap) v (W.gr cl sz)) (w1 : 1 ≤ W.w ∧ W.w ≤ 128) (w2 : 1 ≤ W.h ∧ W.h ≤ 128) (hN : NbOk (W.w.toNat * W.h.toNat) (stI W cl sz) rt (nbC W cl sz)) (hw : X.Wf) (hhb : X.hb ≤ X.hl) :
    ∃ H' v' L n, RF tb f_ref08_Ground_Labels [grV W.w W.h v] X = some (v', X.hp H') ∧ Own natF H' v' L ∧ Out (W.w.toNat * W.h.toNat) (stI W cl sz) rt (W.w.toNat * W.h.toNat) L n ∧ Keep [] X.heap H' ∧ ∀ i ∈ slFp v', X.hl ≤ i := by
  rw [RF_go t_ref08_Ground_Labels _ _ rfl, push_hp]
  generalize hH : X.heap = H at *
  have hHl : X.hl = H.length := by rw [← hH]; rfl
  obtain ⟨N, hNn⟩ : ∃ N, W.w.toNat * W.h.toNat = N := ⟨_, rfl⟩
  rw [hNn] at hN ⊢
  have hwh : W.w * W.h = (N : Int) := by rw [← hNn, Int.natCast_mul, Int.toNat_of_nonneg (by omega), Int.toNat_of_nonneg (by omega)]
  have hn2 : N ≤ 16384 := by rw [← hNn]; exact Nat.mul_le_mul (show W.w.toNat ≤ 128 by omega) (show W.h.toNat ≤ 128 by omega)
  have wn : IntKind.wrap .i64 (W.w * W.h) = (N : Int) := by rw [wrap_small (by omega) (by omega), hwh]
  have hv2 : ((8 : Int) * (N : Int) ≤ (two48 : Int)) = True := by simp [two48]; omega
  have hv3 : ((N : Int) < 9223372036854775808) = True := by simp; omega
  have hv4 : ((0 : Int) ≤ (N : Int)) = True := by simp
  have sv := hv.isSl
  simp (maxDischargeDepth := 8) only [go_sem, s_ref08_Ground_Labels, grV, hw, hH, wn, hv2, hv3, hv4, Int.le_refl, sv.l, sv.c, sv.k, sv.o]
  obtain ⟨H1, hH1⟩ : ∃ H1, H ++ [(0, SBk.cells true (List.replicate N [SV.int .i64 0]).flatten)] = H1 := ⟨_, rfl⟩
  have own : Own natF H1 (.sl (.hp H.length 0) 0 N (some N) 1) (List.replicate N 0) := by rw [← hH1]; exact mkslV_own natF_even H 0 N
  have k1 : Keep [] H H1 := by rw [← hH1]; exact Keep.app _ _ _
  rw [hH1]
  have fp : ∀ i ∈ slFp (.sl (.hp H.length 0) 0 N (some N) 1), i = H.length := by simp [slFp]
  have hx : (SV.sl (.hp H.length 0) 0 N (some N) 1).hx = H.length + 1 := rfl
  generalize (SV.sl (.hp H.length 0) 0 N (some N) 1) = ov at *
  have so := own.isSl natF_even
  rw [KL_keep _ _ _ (by simp (maxDischargeDepth := 8) only [go_sem, so.l])]
  simp (maxDischargeDepth := 8) only [go_sem]
  refine KL_ind (R := fun z => ∃ H' v' L n, fin [.t 2] X z = some (v', X.hp H') ∧ Own natF H' v' L ∧ Out N (stI W cl sz) rt N L n ∧ Keep [] H H' ∧ ∀ i ∈ slFp v', X.hl ≤ i)
    (α := Nat × Nat × List Nat × Hp) (fun q => N - q.1) (fun q => [(1, .ptr (.st X.dep 0) 0), (3, ov), (4, .int .i64 (q.2.1 : Int)), (5, .int .i64 (q.1 : Int))]) (fun q => (X.hp q.2.2.2).fr [.cells true [.int .i64 W.w, .int .i64 W.h, v]] none)
    (fun q => q.1 ≤ N ∧ Own natF q.2.2.2 ov q.2.2.1 ∧ Keep [] H q.2.2.2 ∧ H.length < q.2.2.2.length ∧ Out N (stI W cl sz) rt q.1 q.2.2.1 q.2.1 ∧ q.2.1 ≤ q.1) ?_ (0, 0, List.replicate N 0, H1) ⟨Nat.zero_le _, own, k1, by rw [← hH1]; simp, out_zero _ _ _, Nat.le_refl _⟩
  clear own k1 hH1
  rintro ⟨i, n, L, Hc⟩ ⟨hi, ow, kH, hlt1, hO, hni⟩ ih
  dsimp only at hi ow kH hlt1 hO hni ⊢
  have lo := ow.lies natF_even
  have hLl := hO.len
  have hv' : LiesD boolF (Hm Hc) v (W.gr cl sz) := hv.keep kH (by simp)
  by_cases hlt : i < N
  · have hgi : (W.gr cl sz)[i]? = some (stI W cl sz i) := by unfold Wd.gr; rw [hNn, List.getElem?_map, List.getElem?_range hlt]; rfl
    have hgl : (W.gr cl sz).length = N := by rw [gr_len, hNn]
    have hLi : L[i]? = some (L.getD i 0) := by rw [List.getD_eq_getElem?_getD, List.getElem?_eq_getElem (by omega)]; rfl
    have hit := fun (k : IntKind) (m' : Mem) => hv'.iaddrT (i := (i : Int)) (by omega) (by omega) k m'
    simp only [Int.toNat_natCast] at hit
    have base := fun (l : List SV) => so.l
    by_cases hsk : stI W cl sz i = false ∨ L.getD i 0 ≠ 0
    · have hc1 : (!stI W cl sz i || decide ((L.getD i 0 : Int) > 0)) = true := by
        rcases hsk with h | h
        · rw [h]; rfl
        · rw [show decide ((L.getD i 0 : Int) > 0) = true from decide_eq_true (by omega)]; simp
      cases hst : stI W cl sz i with
      | false =>
        rw [hst] at hgi
        simp (maxDischargeDepth := 8) only [go_sem, hw, so.l, lo.len, hLl, show decide ((i : Int) < (N : Int)) = true from decide_eq_true (by omega), hit, hv'.loadT hgi, wrap_succ (show i ≤ 4611686018427387903 by omega)]
        rw [KL_keep _ _ _ (by simp (maxDischargeDepth := 8) only [go_sem, so.l])]
        simp (maxDischargeDepth := 8) only [go_sem]
        exact ih (i + 1, n, L, Hc) ⟨by dsimp only; omega, ow, kH, hlt1, hO.skip hlt hsk, by dsimp only; omega⟩ (by dsimp only; omega)
      | true =>
        rw [hst] at hgi
        have hne : L.getD i 0 ≠ 0 := by
          rcases hsk with h | h
          · rw [hst] at h; cases h
          · exact h
        simp (maxDischargeDepth := 8) only [go_sem, hw, so.l, lo.len, hLl, show decide ((i : Int) < (N : Int)) = true from decide_eq_true (by omega), hit, hv'.loadT hgi, lo.iaddrN (i := i) (by omega), lo.loadN' hLi, show decide ((L.getD i 0 : Int) > 0) = true from decide_eq_true (by omega), wrap_succ (show i ≤ 4611686018427387903 by omega)]
        rw [KL_keep _ _ _ (by simp (maxDischargeDepth := 8) only [go_sem, so.l])]
        simp (maxDischargeDepth := 8) only [go_sem]
        exact ih (i + 1, n, L, Hc) ⟨by dsimp only; omega, ow, kH, hlt1, hO.skip hlt hsk, by dsimp only; omega⟩ (by dsimp only; omega)
    · have hst : stI W cl sz i = true := by
        cases h : stI W cl sz i with
        | false => exact absurd (.inl h) hsk
        | true => rfl
      have h0 : L.getD i 0 = 0 := by
        rcases Nat.eq_zero_or_pos (L.getD i 0) with h | h
        · exact h
        · exact absurd (.inr (by omega)) hsk
      rw [hst] at hgi
      rw [h0] at hLi
      have tmw : (i : Int).tmod W.w = ((i % W.w.toNat : Nat) : Int) := by rw [Int.tmod_eq_emod_of_nonneg (by omega), Int.natCast_emod, Int.toNat_of_nonneg (by omega)]
      have tdw : IntKind.wrap .i64 ((i : Int).tdiv W.w) = ((i / W.w.toNat : Nat) : Int) := by
        have : (i : Int).tdiv W.w = ((i / W.w.toNat : Nat) : Int) := by rw [Int.tdiv_eq_ediv_of_nonneg (by omega), Int.natCast_ediv, Int.toNat_of_nonneg (by omega)]
        have h9 : i / W.w.toNat ≤ i := Nat.div_le_self _ _
        rw [this]
        generalize i / W.w.toNat = q at *
        exact wrap_small (by omega) (by omega)
      obtain ⟨H2, st2, o2, k2, n2⟩ := storeN ow (i := i) (by omega) X (fun j hj => by have := fp j hj; omega) (n + 1)
      simp (maxDischargeDepth := 8) only [go_sem, hw, so.l, lo.len, hLl, show decide ((i : Int) < (N : Int)) = true from decide_eq_true (by omega), hit, hv'.loadT hgi, lo.iaddrN (i := i) (by omega), lo.loadN' hLi, show decide ((0 : Int) > 0) = false from by decide, wrap_succ (show n ≤ 4611686018427387903 by omega), st2, show (W.w = 0) = False from eq_false (by omega), tmw, tdw]
      obtain ⟨H3, hH3⟩ : ∃ H3, H2 ++ [(0, SBk.cells true [.int .i64 ((i % W.w.toNat : Nat) : Int), .int .i64 ((i / W.w.toNat : Nat) : Int)])] = H3 := ⟨_, rfl⟩
      have k3 : Keep [] H2 H3 := by rw [← hH3]; exact Keep.app _ _ _
      have l3 : H3.length = H2.length + 1 := by rw [← hH3, List.length_append]; rfl
      have ot : Own cellF H3 (.sl (.hp H2.length 0) 0 1 (some 1) 2) ([i].map (cellI W)) := by rw [← hH3]; exact own_new cellF_even H2 [cellI W i] (some 1)
      have o3 : Own natF H3 ov (L.set i (n + 1)) := o2.keep k3 (by simp)
      have kk3 : Keep [] H H3 := (kH.trans' k2 (fun m hm hl => by have := fp m hm; omega)).trans k3
      have hz0 := zc_set L i (n + 1) (by omega) h0 (by omega)
      have hzl := zc_le L
      rw [hH3]
      have st6 := ot.isSl cellF_even
      rw [KL_keep _ _ _ (by simp (maxDischargeDepth := 8) only [go_sem, so.l, st6.l])]
      simp (maxDischargeDepth := 8) only [go_sem]
      refine KL_ind (R := (fun z => ∃ H' v' L n, fin [.t 2] X z = some (v', X.hp H') ∧ Own natF H' v' L ∧ Out N (stI W cl sz) rt N L n ∧ Keep [] H H' ∧ ∀ i ∈ slFp v', X.hl ≤ i))
        (α := List Nat × List Nat × SV × Hp) (fun q => 2 * zc q.1 + q.2.1.length) (fun q => [(1, .ptr (.st X.dep 0) 0), (3, ov), (4, .int .i64 ((n + 1 : Nat) : Int)), (5, .int .i64 (i : Int)), (6, q.2.2.1)]) (fun q => (X.hp q.2.2.2).fr [.cells true [.int .i64 W.w, .int .i64 W.h, v]] none)
        (fun q => Own natF q.2.2.2 ov q.1 ∧ Own cellF q.2.2.2 q.2.2.1 (q.2.1.map (cellI W)) ∧ capL q.2.2.1 = true ∧ (∀ j ∈ slFp q.2.2.1, H.length < j) ∧ Keep [] H q.2.2.2 ∧ H.length < q.2.2.2.length ∧ 2 * zc q.1 + q.2.1.length ≤ 2 * N ∧ ∃ c d, Flo N (stI W cl sz) rt (nbC W cl sz) L i (n + 1) q.1 q.2.1 c d ∧ (∀ e b, e < 8 → nbC W cl sz c e = some b → c ∉ q.2.1 → q.1.getD b 0 ≠ 0))
        ?_ (L.set i (n + 1), [i], .sl (.hp H2.length 0) 0 1 (some 1) 2, H3) ⟨o3, ot, by simp [capL], by simp [slFp]; omega, kk3, by show H.length < H3.length; omega, by show 2 * zc (L.set i (n + 1)) + 1 ≤ 2 * N; omega, i, 0, flo_begin hO hlt hst h0, fun e b _ _ hc => absurd (by simp) hc⟩
      clear o3 ot kk3 st6
      rintro ⟨M, T, tv, Hd⟩ ⟨om, ot, cp, tf, kd, hd1, hmu, c0, d0, hF, hdn⟩ ih2
      dsimp only at om ot cp tf kd hd1 hmu hF hdn ⊢
      have st := ot.isSl cellF_even
      have lt := ot.lies cellF_even
      have htl : (T.map (cellI W)).length = T.length := List.length_map _
      rcases List.eq_nil_or_concat T with rfl | ⟨T', x, rfl⟩
      · simp (maxDischargeDepth := 8) only [go_sem, hw, so.l, st.l, lt.len, htl, show decide ((0 : Int) > 0) = false from by decide, List.length_nil]
        rw [KL_keep _ _ _ (by simp (maxDischargeDepth := 8) only [go_sem, so.l])]
        simp (maxDischargeDepth := 8) only [go_sem, wrap_succ (show i ≤ 4611686018427387903 by omega)]
        have hOut := hF.fin hN hO hlt hst (fun e b he hn => hdn e b he hn (by simp))
        exact ih (i + 1, n + 1, M, Hd) ⟨by dsimp only; omega, om, kd, hd1, hOut, by dsimp only; omega⟩ (by dsimp only; omega)
      · rw [List.concat_eq_append] at *
        have hF2 := hF.pop hdn
        rw [List.map_append, List.map_cons, List.map_nil] at ot lt
        have hTl : (T'.map (cellI W)).length = T'.length := List.length_map _
        obtain ⟨p1, p2, p3, p4⟩ := own_popC ot cp
        rw [hTl] at p1 p2 p3 p4
        have htl2 : (T'.map (cellI W) ++ [cellI W x]).length = T'.length + 1 := by simp
        have hgx : (T'.map (cellI W) ++ [cellI W x])[T'.length]? = some (cellI W x) := by rw [List.getElem?_append_right (by simp)]; simp
        have hmu2 : 2 * zc M + T'.length + 1 ≤ 2 * N := by simp at hmu; omega
        have wT : IntKind.wrap .i64 (((T'.length + 1 : Nat) : Int) - 1) = (T'.length : Int) := by rw [wrap_small (by omega) (by omega)]; omega
        have sp := p2.isSl cellF_even
        simp (maxDischargeDepth := 8) only [go_sem, hw, so.l, st.l, lt.len, htl2, show decide (((T'.length + 1 : Nat) : Int) > 0) = true from decide_eq_true (by omega), wT, lt.iaddrC (i := T'.length) (by omega), lt.loadC hgx, p1]
        rw [KL_keep _ _ _ (by simp (maxDischargeDepth := 8) only [go_sem, so.l, sp.l])]
        simp (maxDischargeDepth := 8) only [go_sem]
        refine KL_ind (R := (fun z => ∃ H' v' L n, fin [.t 2] X z = some (v', X.hp H') ∧ Own natF H' v' L ∧ Out N (stI W cl sz) rt N L n ∧ Keep [] H H' ∧ ∀ i ∈ slFp v', X.hl ≤ i))
          (α := Nat × List Nat × List Nat × SV × Hp) (fun q => 8 - q.1) (fun q => [(1, .ptr (.st X.dep 0) 0), (3, ov), (4, .int .i64 ((n + 1 : Nat) : Int)), (5, .int .i64 (i : Int)), (6, q.2.2.2.1), (7, .ptr (.st X.dep 1) 0), (8, .int .i64 (q.1 : Int))]) (fun q => (X.hp q.2.2.2.2).fr [.cells true [.int .i64 W.w, .int .i64 W.h, v], .cells true [.int .i64 (cellI W x).1, .int .i64 (cellI W x).2]] none)
          (fun q => q.1 ≤ 8 ∧ Own natF q.2.2.2.2 ov q.2.1 ∧ Own cellF q.2.2.2.2 q.2.2.2.1 (q.2.2.1.map (cellI W)) ∧ capL q.2.2.2.1 = true ∧ (∀ j ∈ slFp q.2.2.2.1, H.length < j) ∧ Keep [] H q.2.2.2.2 ∧ H.length < q.2.2.2.2.length ∧ 2 * zc q.2.1 + q.2.2.1.length + 1 ≤ 2 * zc M + (T' ++ [x]).length ∧ Flo N (stI W cl sz) rt (nbC W cl sz) L i (n + 1) q.2.1 q.2.2.1 x q.1)
          ?_ (0, M, T', takeV T'.length tv, Hd) ⟨Nat.zero_le _, om, p2, p4, by rw [p3]; exact tf, kd, hd1, by show 2 * zc M + T'.length + 1 ≤ 2 * zc M + (T' ++ [x]).length; rw [List.length_append, List.length_singleton]; omega, hF2⟩
        clear p2 p4 sp hF2
        rintro ⟨d, M2, T2, tv2, He⟩ ⟨hd8, om2, ot2, cp2, tf2, ke, he1, hmu3, hG⟩ ih3
        dsimp only at hd8 om2 ot2 cp2 tf2 ke he1 hmu3 hG ⊢
        have st2 := ot2.isSl cellF_even
        have lt2 := ot2.lies cellF_even
        by_cases hd9 : d < 8
        · have hve : LiesD boolF (Hm He) v (W.gr cl sz) := hv.keep ke (by simp)
          have hS := fun f e => r_ref08_Ground_Steps (X := (X.hp He).fr f e) hve w1 w2 (hpsub_refl _) (fr_wf (hp_wf hw) f e) (cellI W x).1 (cellI W x).2 (d : Int)
          unfold grV cellV at hS
          have wd := wrap_succ (show d ≤ 4611686018427387903 by omega)
          cases hs : W.steps cl sz (cellI W x).1 (cellI W x).2 (d : Int) with
          | false =>
            simp only [hs, Bool.false_eq_true, if_false] at hS
            simp (maxDischargeDepth := 8) only [go_sem, hw, so.l, st2.l, sv.l, sv.c, sv.k, sv.o, show decide ((d : Int) < 8) = true from decide_eq_true (by omega), hS, wd]
            rw [KL_keep _ _ _ (by simp (maxDischargeDepth := 8) only [go_sem, so.l, st2.l])]
            simp (maxDischargeDepth := 8) only [go_sem]
            have hnb : nbC W cl sz x d = none := by unfold nbC; rw [if_neg (by rw [show W.steps cl sz ((x % W.w.toNat : Nat) : Int) ((x / W.w.toNat : Nat) : Int) (d : Int) = false from hs]; decide)]
            exact ih3 (d + 1, M2, T2, tv2, He) ⟨by dsimp only; omega, om2, ot2, cp2, tf2, ke, he1, hmu3, hG.no (fun b hb => by rw [hnb] at hb; cases hb)⟩ (by dsimp only; omega)
          | true =>
            simp only [hs, if_true] at hS
            obtain ⟨tx, htx⟩ : ∃ tx, (cellI W x).1 + turnX (d : Int) = tx := ⟨_, rfl⟩
            obtain ⟨ty, hty⟩ : ∃ ty, (cellI W x).2 + turnY (d : Int) = ty := ⟨_, rfl⟩
            rw [htx, hty] at hS
            have hsS : W.stands cl sz tx ty = true := by
              have := hs
              simp only [Wd.steps, Bool.and_eq_true, htx, hty] at this
              exact this.1.2
            have b1 := stands_bx7 hsS
            obtain ⟨q1, q2, q3⟩ := ix_in (W := W) w1.1 b1
            have hnb : nbC W cl sz x d = some (ixC W tx ty) := by
              unfold nbC
              rw [if_pos (show W.steps cl sz ((x % W.w.toNat : Nat) : Int) ((x / W.w.toNat : Nat) : Int) (d : Int) = true from hs), ← htx, ← hty]; rfl
            rw [hNn] at q1
            have e6 : ty * W.w = ((ty.toNat * W.w.toNat : Nat) : Int) := by rw [Int.natCast_mul, Int.toNat_of_nonneg (by omega), Int.toNat_of_nonneg (by omega)]
            have e5 : ixC W tx ty = ty.toNat * W.w.toNat + tx.toNat := rfl
            have e7 : IntKind.wrap .i64 (ty * W.w) = ((ty.toNat * W.w.toNat : Nat) : Int) := by rw [e6, wrap_small (by omega) (by omega)]
            have e8 : IntKind.wrap .i64 (((ty.toNat * W.w.toNat : Nat) : Int) + tx) = ((ixC W tx ty : Nat) : Int) := by rw [wrap_small (by omega) (by omega)]; omega
            have lM := om2.lies natF_even
            have hMl := hG.len
            have hgb : M2[ixC W tx ty]? = some (M2.getD (ixC W tx ty) 0) := by rw [List.getD_eq_getElem?_getD, List.getElem?_eq_getElem (by omega)]; rfl
            by_cases hb0 : M2.getD (ixC W tx ty) 0 = 0
            · rw [hb0] at hgb
              obtain ⟨H5, st5, o5, k5, n5⟩ := storeN om2 (i := ixC W tx ty) (by omega) X (fun j hj => by have := fp j hj; omega) (n + 1)
              have kk5 : Keep [] H H5 := ke.trans' k5 (fun m hm hl => by have := fp m hm; omega)
              have ot5 : Own cellF H5 tv2 (T2.map (cellI W)) := ot2.keep k5 (fun j hj hc => by have := tf2 j hj; have := fp j hc; omega)
              obtain ⟨H6, hH6⟩ : ∃ H6, H5 ++ [(0, SBk.cells true [.int .i64 tx, .int .i64 ty])] = H6 := ⟨_, rfl⟩
              have k6 : Keep [] H5 H6 := by rw [← hH6]; exact Keep.app _ _ _
              have y6 : LiesD cellF (Hm H6) (.sl (.hp H5.length 0) 0 1 (some 1) 2) [(tx, ty)] := by rw [← hH6]; exact (own_new cellF_even H5 [(tx, ty)] (some 1)).lies cellF_even
              have l6 : H6.length = H5.length + 1 := by rw [← hH6, List.length_append]; rfl
              obtain ⟨tv3, H7, a7, o7, k7, f7, c7⟩ := appK (ot5.keep k6 (by simp)) y6 cp2 (by rw [List.length_map]; simp; simp at hmu3; omega) X (fun j hj => by have := tf2 j hj; omega)
              simp (maxDischargeDepth := 8) only [go_sem, hw, so.l, st2.l, sv.l, sv.c, sv.k, sv.o, show decide ((d : Int) < 8) = true from decide_eq_true (by omega), hS, wd, e7, e8, lM.iaddrN (i := ixC W tx ty) (by omega), lM.loadN' hgb, show ((0 : Int) == 0) = true from rfl, st5, hH6, a7]
              rw [KL_keep _ _ _ (by simp (maxDischargeDepth := 8) only [go_sem, so.l, (o7.isSl cellF_even).l])]
              simp (maxDischargeDepth := 8) only [go_sem]
              have hcell : cellI W (ixC W tx ty) = (tx, ty) := Prod.ext q2 q3
              have hzs := zc_set M2 (ixC W tx ty) (n + 1) (by omega) hb0 (by omega)
              refine ih3 (d + 1, M2.set (ixC W tx ty) (n + 1), T2 ++ [ixC W tx ty], tv3, H7) ⟨by dsimp only; omega, (o5.keep k6 (by simp)).keep k7 (fun j hj hc => by have := tf2 j hc; have := fp j hj; omega), ?_, c7, fun j hj => ?_, (kk5.trans k6).trans' k7 (fun m hm hl => by have := tf2 m hm; omega), ?_, ?_, hG.yes hN (by omega) hnb hb0⟩ (by dsimp only; omega)
              · dsimp only; rw [List.map_append, List.map_cons, List.map_nil, hcell]; exact o7
              · rcases f7 j hj with h | h
                · exact tf2 j h
                · omega
              · have := k7.1; show H.length < H7.length; omega
              · show 2 * zc (M2.set (ixC W tx ty) (n + 1)) + (T2 ++ [ixC W tx ty]).length + 1 ≤ _
                rw [List.length_append, List.length_singleton]; omega
            · simp (maxDischargeDepth := 8) only [go_sem, hw, so.l, st2.l, sv.l, sv.c, sv.k, sv.o, show decide ((d : Int) < 8) = true from decide_eq_true (by omega), hS, wd, e7, e8, lM.iaddrN (i := ixC W tx ty) (by omega), lM.loadN' hgb, show ((M2.getD (ixC W tx ty) 0 : Int) == 0) = false from beq_eq_false_iff_ne.2 (by omega)]
              rw [KL_keep _ _ _ (by simp (maxDischargeDepth := 8) only [go_sem, so.l, st2.l])]
              simp (maxDischargeDepth := 8) only [go_sem]
              exact ih3 (d + 1, M2, T2, tv2, He) ⟨by dsimp only; omega, om2, ot2, cp2, tf2, ke, he1, hmu3, hG.no (fun b hb => by rw [hnb] at hb; cases hb; exact hb0)⟩ (by dsimp only; omega)
        · have hd0 : d = 8 := by omega
          subst hd0
          simp (maxDischargeDepth := 8) only [go_sem, hw, so.l, st2.l, show decide (((8 : Nat) : Int) < 8) = false from by decide]
          rw [KL_keep _ _ _ (by simp (maxDischargeDepth := 8) only [go_sem, so.l, st2.l])]
          simp (maxDischargeDepth := 8) only [go_sem]
          exact ih2 (M2, T2, tv2, He) ⟨om2, ot2, cp2, tf2, ke, he1, by dsimp only at hmu ⊢; omega, x, 8, hG, fun e b he hn _ => hG.part e b he hn⟩ (by dsimp only at hmu3 ⊢; omega)
  · have ei : i = N := by omega
    subst ei
    simp (maxDischargeDepth := 8) only [go_sem, hw, so.l, lo.len, hLl, show decide ((i : Int) < (i : Int)) = false from decide_eq_false (by omega)]
    rw [hx, if_neg (by omega)]
    exact ⟨Hc, ov, L, n, rfl, ow, hO, kH, fun j hj => by have := fp j hj; omega⟩
theorem canon_mx {N : Nat} {st : Nat → Bool} {R : Nat → Nat → Prop} {f : Nat → Nat} (h : Canon N st R f) : ∀ i, i ≤ N → mxP f i = cntF st R i ∧ (fsP f i).length = cntF st R i := by
  intro i
  induction i with
  | zero => intro _; exact ⟨rfl, rfl⟩
  | succ i ih =>
    intro hi
    obtain ⟨h1, h2⟩ := ih (by omega)
    cases hs : st i with
    | false =>
      have e := (h i (by omega)).1 hs
      rw [cntF_no (fun hf => by have := hf.1; rw [hs] at this; cases this)]
      simp only [mxP, fsP, e, if_neg (Nat.not_lt_zero _)]
      exact ⟨h1, h2⟩
    | true =>
      rcases (h i (by omega)).2 hs with ⟨j, j1, j2, j3, j4⟩ | ⟨j1, j2⟩
      · rw [cntF_no (fun hf => hf.2 j j1 j2 j3)]
        have := le_mxP (f := f) i j j1
        simp only [mxP, fsP, if_neg (show ¬ mxP f i < f i by omega)]
        exact ⟨h1, h2⟩
      · rw [cntF_fst ⟨hs, j1⟩]
        simp only [mxP, fsP, if_pos (show mxP f i < f i by omega)]
        exact ⟨j2, by rw [List.length_append, h2]; rfl⟩
theorem canon_next {N : Nat} {st : Nat → Bool} {R : Nat → Nat → Prop} {f : Nat → Nat} (h : Canon N st R f) {i : Nat} (hi : i < N) (hlt : mxP f i < f i) : f i = mxP f i + 1 := by
  have e := canon_mx h i (by omega)
  cases hs : st i with
  | false => have := (h i hi).1 hs; omega
  | true =>
    rcases (h i hi).2 hs with ⟨j, j1, j2, j3, j4⟩ | ⟨j1, j2⟩
    · have := le_mxP (f := f) i j j1; omega
    · omega
/-- The map of the firsts. -/
def MFst (f : Nat → Nat) (i : Nat) (M : List (Int × Int)) : Prop := ∀ n, n < (fsP f i).length → alGet ((n + 1 : Nat) : Int) M = some (((fsP f i).getD n 0 : Nat) : Int)
/-- The map of the sizes. -/
def MSiz (f : Nat → Nat) (i : Nat) (M : List (Int × Int)) : Prop := ∀ n : Nat, (alGet (n : Int) M).getD 0 = (cnP f n i : Int)
theorem mFst_zero (f : Nat → Nat) : MFst f 0 [] := fun n h => absurd h (Nat.not_lt_zero _)
theorem mSiz_zero (f : Nat → Nat) : MSiz f 0 [] := fun n => rfl
theorem MFst.no {f : Nat → Nat} {i : Nat} {M : List (Int × Int)} (h : MFst f i M) (hn : ¬ mxP f i < f i) : MFst f (i + 1) M := by
  intro n; simp only [fsP, if_neg hn]; exact h n
theorem MFst.yes {N : Nat} {st : Nat → Bool} {R : Nat → Nat → Prop} {f : Nat → Nat} (hc : Canon N st R f) {i : Nat} {M : List (Int × Int)} (h : MFst f i M) (hi : i < N) (hn : mxP f i < f i) : MFst f (i + 1) (alSet (f i : Int) (i : Int) M) := by
  have e := canon_next hc hi hn
  obtain ⟨e1, e2⟩ := canon_mx hc i (by omega)
  intro n
  simp only [fsP, if_pos hn, List.length_append, List.length_singleton]
  intro hl
  rw [alGet_set]
  by_cases en : n = (fsP f i).length
  · rw [if_pos (by omega), en, List.getD_eq_getElem?_getD, List.getElem?_append_right (Nat.le_refl _), Nat.sub_self]; rfl
  · rw [if_neg (by omega), h n (by omega), List.getD_eq_getElem?_getD, List.getD_eq_getElem?_getD, List.getElem?_append_left (by omega)]
theorem MSiz.set {f : Nat → Nat} {i : Nat} {M : List (Int × Int)} (h : MSiz f i M) : MSiz f (i + 1) (alSet (f i : Int) ((cnP f (f i) i + 1 : Nat) : Int) M) := by
  intro n
  rw [alGet_set]
  simp only [cnP]
  by_cases e : n = f i
  · subst e; rw [if_pos rfl, if_pos rfl]; rfl
  · rw [if_neg (by omega), if_neg (fun h => e h.symm)]; exact h n
theorem cnP_le (f : Nat → Nat) (q : Nat) : ∀ j, cnP f q j ≤ j := fun j => by
  induction j with
  | zero => exact Nat.le_refl _
  | succ j ih => simp only [cnP]; split <;> omega
theorem mxP_le' {N : Nat} {st : Nat → Bool} {R : Nat → Nat → Prop} {f : Nat → Nat} (h : Canon N st R f) : ∀ i, i ≤ N → mxP f i ≤ i := by
  have hc : ∀ i, cntF st R i ≤ i := fun i => by
    induction i with
    | zero => exact Nat.le_refl _
    | succ i ih => simp only [cntF]; split <;> omega
  intro i hi
  rw [(canon_mx h i hi).1]; exact hc i
theorem fsP_lt (f : Nat → Nat) : ∀ i, ∀ x ∈ fsP f i, x < i := by
  intro i
  induction i with
  | zero => intro x hx; simp [fsP] at hx
  | succ i ih =>
    intro x hx
    simp only [fsP] at hx
    split at hx
    · rcases List.mem_append.1 hx with h | h
      · have := ih x h; omega
      · simp at h; omega
    · have := ih x hx; omega
theorem list_ext0 {A B : List Nat} {N : Nat} (ha : A.length = N) (hb : B.length = N) (h : ∀ i, i < N → A.getD i 0 = B.getD i 0) : A = B := by
  apply List.ext_getElem (by omega)
  intro i h1 h2
  have := h i (by omega)
  rw [List.getD_eq_getElem?_getD, List.getD_eq_getElem?_getD, List.getElem?_eq_getElem h1, List.getElem?_eq_getElem h2] at this
  exact this
theorem labels_of {X : Mem} {v : SV} {W : Wd} {cl sz : Int} {rt : Nat → Nat} {z : Option (SV × Mem)} (hz : RF tb f_ref08_Ground_Labels [grV W.w W.h v] X = z) (hv : LiesD boolF (Hm X.heap) v (W.gr cl sz)) (w1 : 1 ≤ W.w ∧ W.w ≤ 128) (w2 : 1 ≤ W.h ∧ W.h ≤ 128) (hN : NbOk (W.w.toNat * W.h.toNat) (stI W cl sz) rt (nbC W cl sz)) (hw : X.Wf) (hhb : X.hb ≤ X.hl) :
    ∃ H' v' L n, z = some (v', X.hp H') ∧ Own natF H' v' L ∧ Out (W.w.toNat * W.h.toNat) (stI W cl sz) rt (W.w.toNat * W.h.toNat) L n ∧ Keep [] X.heap H' ∧ ∀ i ∈ slFp v', X.hl ≤ i := by
  subst hz; exact r_ref08_Labels hv w1 w2 hN hw hhb
theorem canon_eq {N : Nat} {st : Nat → Bool} {rt : Nat → Nat} {A B : List Nat} (ha : A.length = N) (hb : B.length = N) (h1 : Canon N st (fun x y => rt x = rt y) (fun i => A.getD i 0)) (h2 : Canon N st (fun x y => rt x = rt y) (fun i => B.getD i 0)) : A = B :=
  list_ext0 ha hb (fun i hi => h1.uniq h2 (fun _ _ h => h.symm) (fun _ _ _ h k => h.trans k) (i + 1) i (Nat.lt_succ_self _) hi)
theorem r_law08_right {X : Mem} {kp : Nat} {q : QP} {W : Wd} {bl : List Bld} {cl sz : Int} {rt : Nat → Nat} {L : List Nat} {F : List (Int × Int)} {Z : List Nat} {num : Nat → Nat} (hP : PA (Hm X.heap) kp W L F Z) (hB : Lab (W.w.toNat * W.h.toNat) (stI W cl sz) rt (fun i => (((i % W.w.toNat : Nat) : Int), ((i / W.w.toNat : Nat) : Int))) (W.w.toNat * W.h.toNat) L F Z num) (hr : ∀ x y, x < W.w.toNat * W.h.toNat → y < W.w.toNat * W.h.toNat → (rt x = rt y ↔ Lnk (EL W cl sz (W.w.toNat * W.h.toNat)) x y)) (hR : RefOwn X.heap q W bl) (ho : ∀ a b, (atL bl a b).isSome = (atL W.bl a b).isSome) (hg : W.Good) (hw : X.Wf) (hhb : X.hb ≤ X.hl) :
    ∃ H', RF tb f_law08_right [.ptr (.hp kp 0) 0, .ptr (.hp q.k 0) 0, .agg [.int .i64 cl, .int .i64 sz]] X = some (.bool true, X.hp H') ∧ Keep [] X.heap H' := by
  rw [RF_go t_law08_right _ _ rfl, push_hp]
  generalize hH : X.heap = H at *
  have hHl : X.hl = H.length := by rw [← hH]; rfl
  obtain ⟨N, hNn⟩ : ∃ N, W.w.toNat * W.h.toNat = N := ⟨_, rfl⟩
  have w1 := hP.w1
  have w2 := hP.h1
  have hwp : 0 < W.w.toNat := by omega
  have hn2 : N ≤ 16384 := by rw [← hNn]; exact Nat.mul_le_mul (show W.w.toNat ≤ 128 by omega) (show W.h.toNat ≤ 128 by omega)
  simp (maxDischargeDepth := 8) only [go_sem, s_law08_right, hw, hH]
  generalize hz : RF tb f_ref08_Of _ _ = z
  obtain ⟨gv, H1, rfl, og, fg, k1⟩ := gr_of (cl := cl) (sz := sz) hz (show RefOwn H q W bl from hR) ho hg (fr_wf (hp_wf hw) _ _) (by show X.hb ≤ H.length; omega)
  change Keep [] H H1 at k1
  have sg := og.isSl boolF_even
  have hl1 := k1.1
  simp (maxDischargeDepth := 8) only [go_sem, hw, grV, sg.l, sg.c, sg.k, sg.o]
  generalize hz : RF tb f_ref08_Ground_Labels _ _ = z
  obtain ⟨H2, lv, Lr, nn, rfl, ol, hOut, k2, fl⟩ := labels_of (rt := rt) (cl := cl) (sz := sz) (W := W) hz (og.lies boolF_even) w1 w2 (nb_ok w1 w2 hr) (fr_wf (hp_wf hw) _ _) (by show X.hb ≤ H1.length; omega)
  change Keep [] H1 H2 at k2
  have sl := ol.isSl natF_even
  have hl2 := k2.1
  have hcan := hB.ca
  obtain rfl := canon_eq hOut.len hB.len hOut.canon hcan
  simp (maxDischargeDepth := 8) only [go_sem, hw]
  obtain ⟨H3, hH3⟩ : ∃ H3, H2 ++ [(0, SBk.map [])] = H3 := ⟨_, rfl⟩
  have k3 : Keep [] H2 H3 := by rw [← hH3]; exact Keep.app _ _ _
  have l3 : H3.length = H2.length + 1 := by rw [← hH3, List.length_append]; rfl
  obtain ⟨H4, hH4⟩ : ∃ H4, H3 ++ [(0, SBk.map [])] = H4 := ⟨_, rfl⟩
  have k4 : Keep [] H3 H4 := by rw [← hH4]; exact Keep.app _ _ _
  have l4 : H4.length = H3.length + 1 := by rw [← hH4, List.length_append]; rfl
  rw [hH3]
  simp (maxDischargeDepth := 8) only [go_sem, hw, hH4]
  rw [hNn] at hB hOut hcan hr
  obtain ⟨f, hf⟩ : ∃ f : Nat → Nat, f = (fun i => Lr.getD i 0) := ⟨_, rfl⟩
  have hfi : ∀ i, f i = Lr.getD i 0 := fun i => by rw [hf]
  rw [← hf] at hcan
  have hLl : Lr.length = N := hB.len
  have hkp : kp < H.length := by
    obtain ⟨p, cl, sz, kf, lv, fv, zv, ep, ha, hl, hf, hz⟩ := hP.ex
    exact hget_lt (show hget H kp 0 = _ from ha)
  have hkA : Keep [] H H4 := ((k1.trans k2).trans k3).trans k4
  have ol4 : Own natF H4 lv Lr := (ol.keep k3 (by simp)).keep k4 (by simp)
  have m13 : hget H4 H2.length 0 = some (.map (alV intV intV [])) := k4.get (by rw [← hH3]; exact hget_new0 0 _) (by simp)
  have m14 : hget H4 H3.length 0 = some (.map (alV intV intV [])) := by rw [← hH4]; exact hget_new0 0 _
  have fpl : ∀ j ∈ slFp lv, H1.length ≤ j ∧ j < H2.length := fun j hj => ⟨fl j hj, ol.fp j hj⟩
  have ll := ol4.lies natF_even
  have lw : IntKind.wrap .i64 (0 : Int) = 0 := by decide
  rw [KL_keep _ _ _ (by simp (maxDischargeDepth := 8) only [go_sem, sl.l])]
  simp (maxDischargeDepth := 8) only [go_sem]
  refine KL_ind (R := fun z => ∃ H', fin [.t 6] X z = some (.bool true, X.hp H') ∧ Keep [] H H')
    (α := Nat × List (Int × Int) × List (Int × Int) × Hp) (fun q => N - q.1) (fun q => [(0, .ptr (.hp kp 0) 0), (7, .ptr (.st X.dep 1) 0), (8, lv), (9, .map (.hp H2.length 0)), (10, .map (.hp H3.length 0)), (11, .int .i64 (mxP f q.1 : Int)), (12, .int .i64 (q.1 : Int))]) (fun q => (X.hp q.2.2.2).fr [.cells true [.int .i64 cl, .int .i64 sz], .cells true [.int .i64 W.w, .int .i64 W.h, gv]] none)
    (fun q => q.1 ≤ N ∧ Keep [H2.length, H3.length] H4 q.2.2.2 ∧ hget q.2.2.2 H2.length 0 = some (.map (alV intV intV q.2.2.1)) ∧ hget q.2.2.2 H3.length 0 = some (.map (alV intV intV q.2.1)) ∧ MFst f q.1 q.2.1 ∧ MSiz f q.1 q.2.2.1) ?_ (0, [], [], H4) ⟨Nat.zero_le _, Keep.refl _ _, m13, m14, mFst_zero f, mSiz_zero f⟩
  rintro ⟨i, M1, M2, Hc⟩ ⟨hi, kc, g2, g1, hM1, hM2⟩ ih
  dsimp only at hi kc g2 g1 hM1 hM2 ⊢
  have hlc := kc.1
  have kHc : Keep [] H Hc := hkA.trans' kc (fun m hm hl => by simp at hm; omega)
  have hPc : PA (Hm Hc) kp W Lr F Z := hP.sub kHc.sub
  have oc : Own natF Hc lv Lr := ol4.keep kc (fun j hj hc => by have := (fpl j hj); simp at hc; omega)
  have lc := oc.lies natF_even
  by_cases hlt : i < N
  · have hLi : Lr[i]? = some (f i) := by rw [hfi, List.getD_eq_getElem?_getD, List.getElem?_eq_getElem (by omega)]; rfl
    have tmw : (i : Int).tmod W.w = ((i % W.w.toNat : Nat) : Int) := by rw [Int.tmod_eq_emod_of_nonneg (by omega), Int.natCast_emod, Int.toNat_of_nonneg (by omega)]
    have tdw : IntKind.wrap .i64 ((i : Int).tdiv W.w) = ((i / W.w.toNat : Nat) : Int) := by
      have : (i : Int).tdiv W.w = ((i / W.w.toNat : Nat) : Int) := by rw [Int.tdiv_eq_ediv_of_nonneg (by omega), Int.natCast_ediv, Int.toNat_of_nonneg (by omega)]
      have h9 : i / W.w.toNat ≤ i := Nat.div_le_self _ _
      rw [this]
      generalize i / W.w.toNat = q at *
      exact wrap_small (by omega) (by omega)
    have hat : ∀ {Y : Mem}, HpSub (Hm Hc) Y → Y.Wf → RF tb f_parts_Parts_At [.ptr (.hp kp 0) 0, .agg [.int .i64 ((i % W.w.toNat : Nat) : Int), .int .i64 ((i / W.w.toNat : Nat) : Int)]] Y = some (.int .i64 (f i : Int), Y) := fun hY hwY => by
      have := r_parts_At hPc hY hwY ((i % W.w.toNat : Nat) : Int) ((i / W.w.toNat : Nat) : Int)
      have e3 : i / W.w.toNat < W.h.toNat := by rw [Nat.div_lt_iff_lt_mul hwp, Nat.mul_comm]; omega
      have e2 := Nat.mod_lt i hwp
      have e1 := Nat.div_add_mod i W.w.toNat
      unfold cellV at this
      rw [this]
      unfold atP
      rw [if_pos (show hasB 0 0 W.w W.h ((i % W.w.toNat : Nat) : Int) ((i / W.w.toNat : Nat) : Int) = true from (has_w w1 w2 (W := W)).2 ⟨Int.natCast_nonneg _, by generalize i % W.w.toNat = q at *; omega, Int.natCast_nonneg _, by generalize i / W.w.toNat = q at *; omega⟩), Int.toNat_natCast, Int.toNat_natCast, hfi, Nat.mul_comm, e1]
    have hneq : (((f i : Nat) : Int) != ((f i : Nat) : Int)) = false := by simp
    have hcn := cnP_le f (f i) i
    have eget : ∀ (x : Option Int), ((x.map intV).getD (.int .i64 0)) = .int .i64 (x.getD 0) := fun x => by cases x <;> rfl
    have esz := hM2 (f i)
    have eset2 : assocSet (.int .i64 (f i : Int)) (.int .i64 ((cnP f (f i) i + 1 : Nat) : Int)) (alV intV intV M2) = alV intV intV (alSet (f i : Int) ((cnP f (f i) i + 1 : Nat) : Int) M2) := set_al seq_int _ _ _
    have wc := wrap_succ (show cnP f (f i) i ≤ 4611686018427387903 by omega)
    have wi := wrap_succ (show i ≤ 4611686018427387903 by omega)
    have b2 : (X.hb ≤ H2.length) = True := eq_true (by omega)
    have b3 : (X.hb ≤ H3.length) = True := eq_true (by omega)
    have as2 : assoc (.int .i64 (f i : Int)) (alV intV intV M2) = some ((alGet (f i : Int) M2).map intV) := assoc_int _ _ _
    by_cases hmx : mxP f i < f i
    · have as1 : assoc (.int .i64 (f i : Int)) (alV intV intV M1) = some ((alGet (f i : Int) M1).map intV) := assoc_int _ _ _
      have eset1 : assocSet (.int .i64 (f i : Int)) (.int .i64 (i : Int)) (alV intV intV M1) = alV intV intV (alSet (f i : Int) (i : Int) M1) := set_al seq_int _ _ _
      obtain ⟨Hd, hHd⟩ : ∃ Hd, Hc.set H3.length (0, SBk.map (alV intV intV (alSet (f i : Int) (i : Int) M1))) = Hd := ⟨_, rfl⟩
      have nd : Hd.length = Hc.length := by rw [← hHd, List.length_set]
      have kd : Keep [H3.length] Hc Hd := by rw [← hHd]; exact Keep.set (by simp) _ _
      have g1d : hget Hd H3.length 0 = some (.map (alV intV intV (alSet (f i : Int) (i : Int) M1))) := by rw [← hHd, hget_set_eq (by omega), if_pos rfl]
      have g2d := kd.get g2 (by simp; omega)
      obtain ⟨He, hHe⟩ : ∃ He, Hd.set H2.length (0, SBk.map (alV intV intV (alSet (f i : Int) ((cnP f (f i) i + 1 : Nat) : Int) M2))) = He := ⟨_, rfl⟩
      have ne : He.length = Hd.length := by rw [← hHe, List.length_set]
      have ke : Keep [H2.length] Hd He := by rw [← hHe]; exact Keep.set (by simp) _ _
      have g2e : hget He H2.length 0 = some (.map (alV intV intV (alSet (f i : Int) ((cnP f (f i) i + 1 : Nat) : Int) M2))) := by rw [← hHe, hget_set_eq (by omega), if_pos rfl]
      have g1e := ke.get g1d (by simp; omega)
      have od : Own natF Hd lv Lr := oc.keep kd (fun j hj hc => by have := (fpl j hj); simp at hc; omega)
      have ld := od.lies natF_even
      simp (maxDischargeDepth := 8) only [go_sem, hw, sl.l, lc.len, hLl, show decide ((i : Int) < (N : Int)) = true from decide_eq_true (by omega), show (W.w = 0) = False from eq_false (by omega), tmw, tdw, lc.iaddrN (i := i) (by omega), lc.loadN' hLi, hat, hneq, show decide ((f i : Int) > (mxP f i : Int)) = true from decide_eq_true (by omega), b3, g1, as1, eset1, hHd, b2, ld.loadN' hLi, g2d, as2, eget, esz, wc, eset2, hHe, wi]
      rw [KL_keep _ _ _ (by simp (maxDischargeDepth := 8) only [go_sem, sl.l])]
      simp (maxDischargeDepth := 8) only [go_sem]
      have hmq : mxP f (i + 1) = f i := by simp only [mxP, if_pos hmx]
      have := ih (i + 1, _, _, He) ⟨by dsimp only; omega, (kc.trans' kd (fun m hm hl => by simp at hm; simp [hm])).trans' ke (fun m hm hl => by simp at hm; simp [hm]), g2e, g1e, hM1.yes hcan hlt hmx, hM2.set⟩ (by dsimp only; omega)
      dsimp only at this
      rw [hmq] at this
      exact this
    · obtain ⟨He, hHe⟩ : ∃ He, Hc.set H2.length (0, SBk.map (alV intV intV (alSet (f i : Int) ((cnP f (f i) i + 1 : Nat) : Int) M2))) = He := ⟨_, rfl⟩
      have ne : He.length = Hc.length := by rw [← hHe, List.length_set]
      have ke : Keep [H2.length] Hc He := by rw [← hHe]; exact Keep.set (by simp) _ _
      have g2e : hget He H2.length 0 = some (.map (alV intV intV (alSet (f i : Int) ((cnP f (f i) i + 1 : Nat) : Int) M2))) := by rw [← hHe, hget_set_eq (by omega), if_pos rfl]
      have g1e := ke.get g1 (by simp; omega)
      simp (maxDischargeDepth := 8) only [go_sem, hw, sl.l, lc.len, hLl, show decide ((i : Int) < (N : Int)) = true from decide_eq_true (by omega), show (W.w = 0) = False from eq_false (by omega), tmw, tdw, lc.iaddrN (i := i) (by omega), lc.loadN' hLi, hat, hneq, show decide ((f i : Int) > (mxP f i : Int)) = false from decide_eq_false (by omega), b2, g2, as2, eget, esz, wc, eset2, hHe, wi]
      rw [KL_keep _ _ _ (by simp (maxDischargeDepth := 8) only [go_sem, sl.l])]
      simp (maxDischargeDepth := 8) only [go_sem]
      have hmq : mxP f (i + 1) = mxP f i := by simp only [mxP, if_neg hmx]
      have := ih (i + 1, _, _, He) ⟨by dsimp only; omega, kc.trans' ke (fun m hm hl => by simp at hm; simp [hm]), g2e, g1e, hM1.no hmx, hM2.set⟩ (by dsimp only; omega)
      dsimp only at this
      rw [hmq] at this
      exact this
  · have hiN : i = N := by omega
    subst hiN
    have hFl : F.length = mxP f i := by rw [hB.mx, hf]
    have hmi := mxP_le' hcan i (Nat.le_refl _)
    obtain ⟨mm, hmm⟩ : ∃ mm, mxP f i = mm := ⟨_, rfl⟩
    rw [hmm] at hFl hmi ⊢
    simp (maxDischargeDepth := 8) only [go_sem, hw, sl.l, lc.len, hLl, show decide ((i : Int) < (i : Int)) = false from decide_eq_false (by omega)]
    rw [KL_keep _ _ _ (by simp (maxDischargeDepth := 8) only [go_sem])]
    simp (maxDischargeDepth := 8) only [go_sem]
    have hrt : ∀ j, j < i → decide (¬ j = j) = false := fun j _ => by simp
    refine KL_ind (R := fun z => ∃ H', fin [.t 6] X z = some (.bool true, X.hp H') ∧ Keep [] H H')
      (α := Nat) (fun q => mm - q) (fun q => [(0, .ptr (.hp kp 0) 0), (7, .ptr (.st X.dep 1) 0), (9, .map (.hp H2.length 0)), (10, .map (.hp H3.length 0)), (11, .int .i64 (mm : Int)), (13, .int .i64 ((q + 1 : Nat) : Int))]) (fun q => (X.hp Hc).fr [.cells true [.int .i64 cl, .int .i64 sz], .cells true [.int .i64 W.w, .int .i64 W.h, gv]] none)
      (fun q => q ≤ mm) ?_ 0 (Nat.zero_le _)
    intro n hn ih2
    by_cases hlt2 : n < mm
    · have hg := hM1 n (by rw [(canon_mx hcan i (Nat.le_refl _)).2, ← (canon_mx hcan i (Nat.le_refl _)).1]; omega)
      obtain ⟨j, hj⟩ : ∃ j, (fsP f i).getD n 0 = j := ⟨_, rfl⟩
      rw [hj] at hg
      have hFs := fun {Y : Mem} (hY : HpSub (Hm Hc) Y) (hwY : Y.Wf) => r_parts_First hPc (by omega) hY hwY ((n + 1 : Nat) : Int)
      have hSz := fun {Y : Mem} (hY : HpSub (Hm Hc) Y) (hwY : Y.Wf) => r_parts_Size hPc (by omega) hY hwY ((n + 1 : Nat) : Int)
      have as1 : assoc (.int .i64 ((n + 1 : Nat) : Int)) (alV intV intV M1) = some (some (.int .i64 (j : Int))) := by rw [assoc_int, hg]; rfl
      have as2 : assoc (.int .i64 ((n + 1 : Nat) : Int)) (alV intV intV M2) = some ((alGet ((n + 1 : Nat) : Int) M2).map intV) := assoc_int _ _ _
      have eget : ∀ (x : Option Int), ((x.map intV).getD (.int .i64 0)) = .int .i64 (x.getD 0) := fun x => by cases x <;> rfl
      have esz := hM2 (n + 1)
      have cond : (1 : Int) ≤ ((n + 1 : Nat) : Int) ∧ ((n + 1 : Nat) : Int) ≤ (F.length : Int) := by omega
      have eF : F.getD (((n + 1 : Nat) : Int).toNat - 1) (0, 0) = (((j % W.w.toNat : Nat) : Int), ((j / W.w.toNat : Nat) : Int)) := by
        rw [hB.fs, ← hf, Int.toNat_natCast, Nat.add_sub_cancel, List.getD_eq_getElem?_getD, List.getElem?_map]
        have : (fsP f i)[n]? = some j := by
          rw [List.getD_eq_getElem?_getD] at hj
          rw [List.getElem?_eq_getElem (by rw [(canon_mx hcan i (Nat.le_refl _)).2, ← (canon_mx hcan i (Nat.le_refl _)).1]; omega)] at hj ⊢
          exact congrArg some hj
        rw [this]; rfl
      have eZ : Z.getD (((n + 1 : Nat) : Int).toNat - 1) 0 = cnP f (n + 1) i := by
        rw [hB.zs, ← hf, Int.toNat_natCast, Nat.add_sub_cancel, List.getD_eq_getElem?_getD, List.getElem?_map, List.getElem?_range (by omega)]; rfl
      have hji : j < i := fsP_lt f i j (by rw [← hj, List.getD_eq_getElem?_getD, List.getElem?_eq_getElem (by rw [(canon_mx hcan i (Nat.le_refl _)).2, ← (canon_mx hcan i (Nat.le_refl _)).1]; omega)]; exact List.getElem_mem _)
      have tmw : (j : Int).tmod W.w = ((j % W.w.toNat : Nat) : Int) := by rw [Int.tmod_eq_emod_of_nonneg (by omega), Int.natCast_emod, Int.toNat_of_nonneg (by omega)]
      have tdw : IntKind.wrap .i64 ((j : Int).tdiv W.w) = ((j / W.w.toNat : Nat) : Int) := by
        have : (j : Int).tdiv W.w = ((j / W.w.toNat : Nat) : Int) := by rw [Int.tdiv_eq_ediv_of_nonneg (by omega), Int.natCast_ediv, Int.toNat_of_nonneg (by omega)]
        have h9 : j / W.w.toNat ≤ j := Nat.div_le_self _ _
        rw [this]
        generalize j / W.w.toNat = q at *
        exact wrap_small (by omega) (by omega)
      simp only [if_pos cond, decide_eq_true cond, eF] at hFs
      simp only [if_pos cond, eZ] at hSz
      unfold cellV at hFs
      have hneq : ∀ p : Nat, (((p : Nat) : Int) != ((p : Nat) : Int)) = false := fun p => by simp
      have wn := wrap_succ (show n + 1 ≤ 4611686018427387903 by omega)
      simp (maxDischargeDepth := 8) only [go_sem, hw, show decide (((n + 1 : Nat) : Int) ≤ (mm : Int)) = true from decide_eq_true (by omega), hFs, hSz, g1, g2, as1, as2, eget, esz, tmw, tdw, Option.getD_some, show (W.w = 0) = False from eq_false (by omega), hneq, wn, shut_get]
      rw [KL_keep _ _ _ (by simp (maxDischargeDepth := 8) only [go_sem])]
      simp (maxDischargeDepth := 8) only [go_sem]
      exact ih2 (n + 1) (by omega) (by omega)
    · have hnm : n = mm := by omega
      subst hnm
      have hcan2 := canon_mx hcan i (Nat.le_refl _)
      have f1 := fun {Y : Mem} (hY : HpSub (Hm Hc) Y) (hwY : Y.Wf) => r_parts_First hPc (by omega) hY hwY ((n + 1 : Nat) : Int)
      have f2 := fun {Y : Mem} (hY : HpSub (Hm Hc) Y) (hwY : Y.Wf) => r_parts_First hPc (by omega) hY hwY 0
      have s1 := fun {Y : Mem} (hY : HpSub (Hm Hc) Y) (hwY : Y.Wf) => r_parts_Size hPc (by omega) hY hwY ((n + 1 : Nat) : Int)
      have s2 := fun {Y : Mem} (hY : HpSub (Hm Hc) Y) (hwY : Y.Wf) => r_parts_Size hPc (by omega) hY hwY 0
      have hL := fun {Y : Mem} (hY : HpSub (Hm Hc) Y) (hwY : Y.Wf) => r_parts_Len hPc hY hwY
      have a1 := fun {Y : Mem} (hY : HpSub (Hm Hc) Y) (hwY : Y.Wf) => r_parts_At hPc hY hwY (-1) 0
      have a2 := fun {Y : Mem} (hY : HpSub (Hm Hc) Y) (hwY : Y.Wf) => r_parts_At hPc hY hwY W.w 0
      have c1 : ¬ ((1 : Int) ≤ ((n + 1 : Nat) : Int) ∧ ((n + 1 : Nat) : Int) ≤ (F.length : Int)) := by omega
      have c2 : ¬ ((1 : Int) ≤ 0 ∧ (0 : Int) ≤ (F.length : Int)) := by omega
      have z1 : atP W Lr (-1) 0 = 0 := if_neg (fun h => by have := (has_w w1 w2 (W := W)).1 h; omega)
      have z2 : atP W Lr W.w 0 = 0 := if_neg (fun h => by have := (has_w w1 w2 (W := W)).1 h; omega)
      simp only [if_neg c1, decide_eq_false c1] at f1 s1
      simp only [if_neg c2, decide_eq_false c2] at f2 s2
      simp only [z1] at a1
      simp only [z2] at a2
      rw [hFl] at hL
      unfold cellV at f1 f2 a1 a2
      have wn := wrap_succ (show n ≤ 4611686018427387903 by omega)
      have beq0 : ((((0 : Nat)) : Int) == 0) = true := by decide
      have beqn : (((n : Nat) : Int) == ((n : Nat) : Int)) = true := by simp
      simp (maxDischargeDepth := 8) only [go_sem, hw, show decide (((n + 1 : Nat) : Int) ≤ (n : Int)) = false from decide_eq_false (by omega), wn, f1, f2, s1, s2, hL, a1, a2, beq0, beqn]
      have kt := (show Keep [] X.heap Hc by rw [hH]; exact kHc).back0 (u := none)
      rw [hH] at kt
      simp only [escOk_none, if_true] at kt
      exact ⟨_, rfl, kt⟩
theorem right08 {X : Mem} {kp : Nat} {q : QP} {W : Wd} {bl : List Bld} {cl sz : Int} {rt : Nat → Nat} {L : List Nat} {F : List (Int × Int)} {Z : List Nat} {num : Nat → Nat} {z : Option (SV × Mem)} (hz : RF tb f_law08_right [.ptr (.hp kp 0) 0, .ptr (.hp q.k 0) 0, .agg [.int .i64 cl, .int .i64 sz]] X = z) (hP : PA (Hm X.heap) kp W L F Z) (hB : Lab (W.w.toNat * W.h.toNat) (stI W cl sz) rt (fun i => (((i % W.w.toNat : Nat) : Int), ((i / W.w.toNat : Nat) : Int))) (W.w.toNat * W.h.toNat) L F Z num) (hr : ∀ x y, x < W.w.toNat * W.h.toNat → y < W.w.toNat * W.h.toNat → (rt x = rt y ↔ Lnk (EL W cl sz (W.w.toNat * W.h.toNat)) x y)) (hR : RefOwn X.heap q W bl) (ho : ∀ a b, (atL bl a b).isSome = (atL W.bl a b).isSome) (hg : W.Good) (hw : X.Wf) (hhb : X.hb ≤ X.hl) :
    ∃ H', z = some (.bool true, X.hp H') ∧ Keep [] X.heap H' := by
  subst hz; exact r_law08_right hP hB hr hR ho hg hw hhb
theorem r_law08_PartsLabels {X : Mem} {tv bv : SV} {tiles : List Int} {bl : List Bld} (hm : MapIn X tv bv tiles bl) (hw : X.Wf) (hhb : X.hb ≤ X.hl) (w hh cl sz : Int) : ∃ m', RF tb f_law08_PartsLabels [.agg [.int .i64 w, .int .i64 hh, tv, bv], .agg [.int .i64 cl, .int .i64 sz]] X = some (.bool true, m') := by
  rw [RF_go t_law08_PartsLabels _ _ rfl, push_hp]
  simp (maxDischargeDepth := 8) only [go_sem, s_law08_PartsLabels, hw, hm.t.cell, hm.b.cell]
  generalize hz : RF tb f_law06_Both _ _ = z
  rcases both_of hz ⟨hm.t, hm.g, hm.b, hm.n⟩ (by simp (maxDischargeDepth := 8) only [go_sem, hw]) hhb with ⟨H', u, rfl, k⟩ | ⟨H', u, p, q, rfl, hO, hR, hg, k, -, -⟩
  · have hl : X.hb ≤ H'.length := by have := k.1; exact Nat.le_trans hhb this
    simp (maxDischargeDepth := 8) only [go_sem, hw, parts_new0, show ((1 : Int) == 1) = true from by decide]
    generalize hz : RF tb f_law08_awake _ _ = z
    obtain ⟨H', u, rfl, -⟩ := aw08 hz (by simp (maxDischargeDepth := 8) only [go_sem, hw]) hl
    simp (maxDischargeDepth := 8) only [go_sem, hw]
    exact ⟨_, rfl⟩
  · have hl : X.hb ≤ H'.length := by have := k.1; exact Nat.le_trans hhb this
    simp (maxDischargeDepth := 8) only [go_sem, hw]
    generalize hz : RF tb f_parts_New _ _ = z
    rcases parts_new_of hz (show WorldOwn H' p _ from hO) hg (fr_wf (hp_wf hw) _ _) hl with ⟨hms, H1, u1, rfl, k1⟩ | ⟨hms, H1, kp, L, F, Z, num, rt, u1, rfl, hP, hB, hr, k1, -⟩
    · have k1' : Keep [] H' H1 := k1
      have hl1 : X.hb ≤ H1.length := Nat.le_trans hl k1'.1
      simp (maxDischargeDepth := 8) only [go_sem, hw, r_ref06_May, hms, show ((1 : Int) == 1) = true from by decide]
      generalize hz : RF tb f_law08_awake _ _ = z
      obtain ⟨H', u, rfl, -⟩ := aw08 hz (by simp (maxDischargeDepth := 8) only [go_sem, hw]) hl1
      simp (maxDischargeDepth := 8) only [go_sem, hw]
      exact ⟨_, rfl⟩
    · have k1' : Keep [] H' H1 := k1
      have hl1 : X.hb ≤ H1.length := Nat.le_trans hl k1'.1
      simp (maxDischargeDepth := 8) only [go_sem, hw, r_ref06_May, hms, show ((0 : Int) == 0) = true from by decide]
      generalize hz : RF tb f_law08_right _ _ = z
      obtain ⟨H2, rfl, k2⟩ := right08 hz (show PA (Hm H1) kp _ L F Z from hP) hB hr (hR.keep k1' (by simp)) (fun _ _ => rfl) hg (fr_wf (hp_wf hw) _ _) hl1
      have k2' : Keep [] H1 H2 := k2
      have hl2 : X.hb ≤ H2.length := Nat.le_trans hl1 k2'.1
      simp (maxDischargeDepth := 8) only [go_sem, hw]
      generalize hz : RF tb f_law08_awake _ _ = z
      obtain ⟨H', u, rfl, -⟩ := aw08 hz (by simp (maxDischargeDepth := 8) only [go_sem, hw]) hl2
      simp (maxDischargeDepth := 8) only [go_sem, hw]
      exact ⟨_, rfl⟩
section
open Go.RowKit Go.WideShapes
theorem law08_PartsLabels {P : Program} {e e' : TypeId} {okB : Bl' → Prop} (a : MT) (s : Int × Int) (h1 : slOk P e (inR .u8) a.2.2.1) (h2 : slOk P e' okB a.2.2.2) (hB : P.bytesOf e' = 40) {n0 n1 : In} (e0 : n0.map (·.2) = rdM.blks a 0) : ∃ m', RF tb f_law08_PartsLabels [.agg (rdM.cells a 0), .agg [.int .i64 s.1, .int .i64 s.2]] (In.mem ([] ++ n0 ++ n1)) = some (.bool true, m') := by
  rw [rdM_blks] at e0
  rw [rdM_cells]
  exact r_law08_PartsLabels (mapIn_of (pre := []) h1 h2 hB e0) (In.wf _) (Nat.zero_le _) _ _ _ _
end
end Go.Sh.T
