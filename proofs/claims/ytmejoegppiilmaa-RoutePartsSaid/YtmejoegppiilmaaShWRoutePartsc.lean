import Derived.Test.YtmejoegppiilmaaShWRoutePartsb
import Derived.Test.YtmejoegppiilmaaShArg
set_option linter.all false
set_option linter.unusedVariables false
set_option linter.unusedSimpArgs false
set_option autoImplicit false
namespace Go.Sh.T
open Go.Sh
set_option maxHeartbeats 8000000
set_option maxRecDepth 20000
abbrev srC (p : WP) (cl sz ax ay aw ah : Int) (cv dv : SV) : List SV := [.ptr (.hp p.k 0) 0, .int .i64 cl, .int .i64 sz, .int .i64 ax, .int .i64 ay, .int .i64 aw, .int .i64 ah, cv, dv]
abbrev boolV (b : Bool) : SV := .bool b
structure FnV (D : Nat) (v : SV) : Prop where
  c : v.cells = [v]
  k : v.known = true
  o : ∀ a b, D ≤ a → SV.cell a b v = true
  l : ∀ a b, D ≤ a → SV.lv a b v = true
/-- A memory whose lower frames are another's. -/
def Low (Y X : Mem) : Prop := X.dep ≤ Y.dep ∧ ∀ d i, d < X.dep → Y.get (.st d i) = X.get (.st d i)
theorem low_hp (X : Mem) (H : Hp) : Low (X.hp H) X := ⟨Nat.le_refl _, fun _ _ _ => rfl⟩
theorem low_fr {Y X : Mem} (h : Low Y X) (f : List SBk) (e : Option Nat) : Low (Y.fr f e) X := ⟨by rw [fr_dep]; have := h.1; omega, fun d i hd => by rw [get_lt_fr _ _ _ _ (by have := h.1; omega)]; exact h.2 d i hd⟩
theorem low_frs {Y X : Mem} (h : Low Y X) (f : List (List SBk)) (e : Option Nat) : Low (Y.frs f e) X := ⟨by rw [frs_dep]; have := h.1; omega, fun d i hd => by rw [get_lt_frs _ _ _ _ (by have := h.1; omega)]; exact h.2 d i hd⟩
theorem low_shut {Y X : Mem} (h : Low Y X) : Low Y.shut X := h
theorem RHeapOwn.keep {H H' : Hp} {k : Nat} {v : SV} {n : Int} {L : List Rt} {S : List Nat} (h : RHeapOwn H k v n L) (kp : Keep S H H') (hk : k ∉ S) (hs : ∀ j ∈ slFp v, j ∉ S) : RHeapOwn H' k v n L := ⟨kp.get h.hd hk, h.ow.keep kp hs, h.nk, h.cp⟩
theorem RHeapOwn.congr {H H' : Hp} {k : Nat} {v : SV} {n : Int} {L : List Rt} (h : RHeapOwn H k v n L) (hc : ∀ i, i < H.length → i = k ∨ i ∈ slFp v → H'[i]? = H[i]?) : RHeapOwn H' k v n L := ⟨by rw [hget_congr (hc k (hget_lt h.hd) (.inl rfl))]; exact h.hd, h.ow.congr fun i hi => hc i (h.ow.fp i hi) (.inr hi), h.nk, h.cp⟩
/-- Where the parts of a search lie. -/
structure SpB (H : Hp) (ks kh kc kd : Nat) : Prop where
  s : ks < H.length
  h : kh = H.length
  n : kh < kc ∧ kc < kd
/-- What lies there. -/
structure SpAt (H : Hp) (ks kh kc kd : Nat) (sc : List SV) (Hd : Hp) (hv : SV) (n : Int) (L : List Rt) (M : List (Cl × Int)) (K : List (Cl × Bool)) : Prop where
  o : RHeapOwn Hd kh hv n L
  kk : Keep [ks] H Hd
  s : hget Hd ks 0 = some (.cells true sc)
  c : hget Hd kc 0 = some (.map (alV cellW intV M))
  d : hget Hd kd 0 = some (.map (alV cellW boolV K))
  f : ∀ j ∈ slFp hv, H.length ≤ j ∧ j ≠ kc ∧ j ≠ kd
theorem SpAt.congr {H : Hp} {ks kh kc kd : Nat} {sc : List SV} {Hd Hr : Hp} {hv : SV} {n : Int} {L : List Rt} {M : List (Cl × Int)} {K : List (Cl × Bool)} (B : SpB H ks kh kc kd) (h : SpAt H ks kh kc kd sc Hd hv n L M K) (hc : ∀ i, i < H.length ∨ i = kh ∨ i = kc ∨ i = kd ∨ i ∈ slFp hv → Hr[i]? = Hd[i]?) (hl : H.length ≤ Hr.length) : SpAt H ks kh kc kd sc Hr hv n L M K :=
  ⟨h.o.congr fun i _ hi => hc i (by rcases hi with e | e; exact .inr (.inl e); exact .inr (.inr (.inr (.inr e)))), ⟨hl, fun i hi hn => by rw [hc i (.inl hi), h.kk.2 i hi hn]⟩, by rw [hget_congr (hc ks (.inl B.s))]; exact h.s, by rw [hget_congr (hc kc (.inr (.inr (.inl rfl))))]; exact h.c,
    by rw [hget_congr (hc kd (.inr (.inr (.inr (.inl rfl)))))]; exact h.d, h.f⟩
abbrev spM (X : Mem) (ks kh kb : Nat) (f1 f2 t1 t2 Bd : Int) (rv : SV) (al res : Bool) (st : LoopState) (pd : Option Jump) (H : Hp) (e : Option Nat) : Mem :=
  (X.hp H).fr [.cells true [.ptr (.hp ks 0) 0], .cells true [.int .i64 f1, .int .i64 f2], .cells true [rv], .cells true [.int .i64 t1, .int .i64 t2], .cells true [.bool al], .cells true [.int .i64 Bd], .cells true [.bool res], .cells true [.ptr (.hp kh 0) 0],
    .loop ⟨st, pd, [(6, .ptr (.st X.dep 0) 0), (8, .ptr (.st X.dep 2) 0), (9, .ptr (.st X.dep 3) 0), (10, .ptr (.st X.dep 4) 0), (11, .ptr (.st X.dep 5) 0), (12, .ptr (.st X.dep 6) 0), (13, .ptr (.st X.dep 7) 0), (41, .fn f_heap_Heap_route_open_Drain_1 [] [.ptr (.hp kb 0) 0])], [42], s_route_search_spread_p5, s_route_search_spread_p23⟩] e
theorem dk_getD (c : Cl) (K : List (Cl × Bool)) : (Option.map boolV (alGet c K)).getD (SV.bool false) = .bool (dK K c) := by
  unfold dK
  cases alGet c K <;> rfl
theorem gm_getD (c : Cl) (M : List (Cl × Int)) : (Option.map intV (alGet c M)).getD (SV.int .i64 0) = .int .i64 ((gM M c).getD 0) := by
  unfold gM
  cases alGet c M <;> rfl
theorem gm_some (c : Cl) (M : List (Cl × Int)) : (Option.map intV (alGet c M)).isSome = (gM M c).isSome := by
  unfold gM
  cases alGet c M <;> rfl
/-- Within a step. -/
abbrev roM (X : Mem) (ks kh kb : Nat) (f1 f2 t1 t2 Bd : Int) (rv : SV) (al : Bool) (e : Option Nat) (g : List SBk) (u : Option Nat) (n0 : Nat) (x : Rt) (st : LoopState) (H : Hp) : Mem :=
  ((spM X ks kh kb f1 f2 t1 t2 Bd rv al false .busy none H e).fr g u).fr [.cells true [.int .i64 x.1, .int .i64 x.2.1, .int .i64 x.2.2.1, .int .i64 x.2.2.2.1],
    .loop ⟨st, none, [(6, .ptr (.st X.dep 0) 0), (8, .ptr (.st X.dep 2) 0), (12, .ptr (.st X.dep 6) 0), (13, .ptr (.st X.dep 7) 0), (14, .ptr (.st (X.dep + 1 + 1) 0) 0), (101, .fn f_class_Around_1 [] [.ptr (.hp (n0 + 2) 0) 0, .ptr (.hp n0 0) 0, .ptr (.hp (n0 + 1) 0) 0])], [102, 103], s_route_search_spread_p14, s_route_search_spread_p21⟩] none
theorem back_some {A B : Mem} {g : List SBk} {k h : Nat} (hk : k < B.heap.length) : (A.fr g (some k)).back B h = A.es (escMin B.esc (some k)) := by
  have : escOk B.heap.length (some k) = false := escOk_some (by omega)
  unfold Mem.back
  simp only [Mem.fr, this, Mem.es, List.tail_cons, Bool.false_eq_true, and_false, if_false]
theorem own_fp {α : Type} {d : Fl α} {H : Hp} {v : SV} {l : List α} (h : Own d H v l) (hl : l ≠ []) : ∃ j, j ∈ slFp v := by
  rcases h with ⟨_, rfl⟩ | ⟨_, rfl⟩ | ⟨k, w, off, cap, c, rfl, _⟩
  · exact absurd rfl hl
  · exact absurd rfl hl
  · exact ⟨k, by simp [slFp]⟩
theorem spread_yield {X : Mem} {H : Hp} {ks kh kc kd kb : Nat} {p : WP} (hw : X.Wf) (hhb : X.hb ≤ ks) (hB : SpB H ks kh kc kd) {cl sz ax ay aw ah : Int} {rv : SV} (hrv : FnV X.dep rv) {h : Int → Int → Int}
    (hr : ∀ Y : Mem, Keep [ks] H Y.heap → Low Y X → Y.Wf → ∀ x y, RV tb rv [.agg [.int .i64 x, .int .i64 y]] Y = some (.int .i64 (h x y), Y)) (f1 f2 t1 t2 Bd : Int) (al : Bool) (e : Option Nat) (g : List SBk) (u : Option Nat) (n0 : Nat) (x : Rt)
    {Hj : Hp} {hv : SV} {n : Int} {L : List Rt} {M : List (Cl × Int)} {K : List (Cl × Bool)} (A : SpAt H ks kh kc kd (srC p cl sz ax ay aw ah (.map (.hp kc 0)) (.map (.hp kd 0))) Hj hv n L M K) (hL : L.length ≤ 4000000) (hn : 0 ≤ n ∧ n ≤ 1000000000) (hx : 0 ≤ x.2.2.1 ∧ x.2.2.1 ≤ 1000000000) (dd y1 y2 : Int) :
    (¬ (hasB ax ay aw ah y1 y2 = true ∧ (gM M (y1, y2) = none ∨ ∃ w, gM M (y1, y2) = some w ∧ x.2.2.1 + costP dd < w)) →
      Yields tb (.st (X.dep + 1 + 1) 1) [.int .i64 dd, cellV y1 y2] (roM X ks kh kb f1 f2 t1 t2 Bd rv al e g u n0 x .ready Hj) (roM X ks kh kb f1 f2 t1 t2 Bd rv al e g u n0 x .ready Hj) none true) ∧
    (hasB ax ay aw ah y1 y2 = true ∧ (gM M (y1, y2) = none ∨ ∃ w, gM M (y1, y2) = some w ∧ x.2.2.1 + costP dd < w) →
      ∃ Hj' hv', Yields tb (.st (X.dep + 1 + 1) 1) [.int .i64 dd, cellV y1 y2] (roM X ks kh kb f1 f2 t1 t2 Bd rv al e g u n0 x .ready Hj) (roM X ks kh kb f1 f2 t1 t2 Bd rv al e g u n0 x .ready Hj') (some kh) true ∧
        SpAt H ks kh kc kd (srC p cl sz ax ay aw ah (.map (.hp kc 0)) (.map (.hp kd 0))) Hj' hv' (n + 1) (upH rlt (L.length + 1) L.length (L ++ [(y1, y2, x.2.2.1 + costP dd, h y1 y2, n)])) (alSet (y1, y2) (x.2.2.1 + costP dd) M) K ∧ Keep (kh :: kc :: slFp hv) Hj Hj' ∧ ∀ i ∈ slFp hv', i ∈ slFp hv ∨ Hj.length ≤ i) := by
  have hcd : 0 ≤ costP dd ∧ costP dd ≤ 14 := by unfold costP; split; split <;> omega; omega
  have wv : IntKind.wrap .i64 (x.2.2.1 + costP dd) = x.2.2.1 + costP dd := wrap_small (by omega) (by omega)
  have As := A.s
  have Ac := A.c
  have Ad := A.d
  constructor
  · intro hno fs e2
    rw [RV_go (l := ⟨.ready, none, _, _, _, _⟩) _ _ _ (by simp (maxDischargeDepth := 8) only [go_sem, reduceIte, reduceCtorEq, Nat.reduceEqDiff, Nat.reduceAdd, Nat.reduceMul, Nat.reduceSub, Nat.reduceLeDiff, Nat.reduceLT, Nat.reduceBEq, Int.reduceToNat, Int.reduceEq, Int.reduceLT, Int.reduceLE, Int.reduceAdd, Int.reduceSub, Int.reduceMul, Int.reduceNeg, roM, spM]; rfl) rfl rfl (by simp (maxDischargeDepth := 8) only [go_sem, reduceIte, reduceCtorEq, Nat.reduceEqDiff, Nat.reduceAdd, Nat.reduceMul, Nat.reduceSub, Nat.reduceLeDiff, Nat.reduceLT, Nat.reduceBEq, Int.reduceToNat, Int.reduceEq, Int.reduceLT, Int.reduceLE, Int.reduceAdd, Int.reduceSub, Int.reduceMul, Int.reduceNeg, roM, spM, hw])]
    simp (maxDischargeDepth := 8) only [go_sem, reduceIte, reduceCtorEq, Nat.reduceEqDiff, Nat.reduceAdd, Nat.reduceMul, Nat.reduceSub, Nat.reduceLeDiff, Nat.reduceLT, Nat.reduceBEq, Int.reduceToNat, Int.reduceEq, Int.reduceLT, Int.reduceLE, Int.reduceAdd, Int.reduceSub, Int.reduceMul, Int.reduceNeg, roM, spM, hw, r_cell_Cost, wv, As, Ac, srC, assoc_cell, gm_getD, gm_some, r_cell_Has]
    cases hh : hasB ax ay aw ah y1 y2 with
    | false => simp (maxDischargeDepth := 8) only [go_sem, reduceIte, reduceCtorEq, Nat.reduceEqDiff, Nat.reduceAdd, Nat.reduceMul, Nat.reduceSub, Nat.reduceLeDiff, Nat.reduceLT, Nat.reduceBEq, Int.reduceToNat, Int.reduceEq, Int.reduceLT, Int.reduceLE, Int.reduceAdd, Int.reduceSub, Int.reduceMul, Int.reduceNeg, hw]; try rfl
    | true =>
      cases hgm : gM M (y1, y2) with
      | none => exact absurd ⟨hh, .inl hgm⟩ hno
      | some w =>
        simp (maxDischargeDepth := 8) only [go_sem, reduceIte, reduceCtorEq, Nat.reduceEqDiff, Nat.reduceAdd, Nat.reduceMul, Nat.reduceSub, Nat.reduceLeDiff, Nat.reduceLT, Nat.reduceBEq, Int.reduceToNat, Int.reduceEq, Int.reduceLT, Int.reduceLE, Int.reduceAdd, Int.reduceSub, Int.reduceMul, Int.reduceNeg, hw, Option.getD_some, Option.isSome_some, show decide (x.2.2.1 + costP dd < w) = false from decide_eq_false fun hc => hno ⟨hh, .inr ⟨w, hgm, hc⟩⟩]
        try rfl
  · rintro ⟨hh, hgm⟩
    have hks := hB.s
    have hkh := hB.h
    have hkn := hB.n
    have eset : assocSet (.agg [.int .i64 y1, .int .i64 y2]) (.int .i64 (x.2.2.1 + costP dd)) (alV cellW intV M) = alV cellW intV (alSet (y1, y2) (x.2.2.1 + costP dd) M) := set_al seq_cell (y1, y2) (x.2.2.1 + costP dd) M
    obtain ⟨H2, hH2⟩ : ∃ H2, Hj.set kc (0, SBk.map (alV cellW intV (alSet (y1, y2) (x.2.2.1 + costP dd) M))) = H2 := ⟨_, rfl⟩
    have k2 : Keep [kc] Hj H2 := by rw [← hH2]; exact Keep.set (by simp) _ _
    have l2 : H2.length = Hj.length := by rw [← hH2, List.length_set]
    have kcl := hget_lt Ac
    have c2 : hget H2 kc 0 = some (.map (alV cellW intV (alSet (y1, y2) (x.2.2.1 + costP dd) M))) := by rw [← hH2, hget_set_eq kcl, if_pos rfl]
    have A2 : SpAt H ks kh kc kd (srC p cl sz ax ay aw ah (.map (.hp kc 0)) (.map (.hp kd 0))) H2 hv n L (alSet (y1, y2) (x.2.2.1 + costP dd) M) K :=
      ⟨A.o.keep k2 (by simp; omega) (fun j hj => by have := A.f j hj; simp; omega), A.kk.trans' k2 (fun m hm hl => by simp at hm; omega), k2.get As (by simp; omega), c2, k2.get Ad (by simp; omega), A.f⟩
    obtain ⟨hv', H3, e3, hP, o3, k3, f3, n3⟩ := r_rheap_PushU A2.o hL hn X.hb (by omega) (fun j hj => by have := (A.f j hj).1; omega) y1 y2 (x.2.2.1 + costP dd) (h y1 y2)
    have k23 : Keep (kh :: kc :: slFp hv) Hj H3 := (Keep.weak (T := kh :: kc :: slFp hv) k2 (by simp)).trans' k3 (fun m hm _ => by
      rcases List.mem_cons.1 hm with h' | h'
      · simp [h']
      · simp [h'])
    have f3' : ∀ j ∈ slFp hv', H.length ≤ j ∧ j ≠ kc ∧ j ≠ kd := fun j hj => by
      have kdl := hget_lt Ad
      rcases f3 j hj with h' | h'
      · exact A.f j h'
      · have := A.kk.1; omega
    have ne3 : e3 = some kh := by
      rcases n3 with h' | h'
      · obtain ⟨j, hj⟩ := own_fp o3.ow (by intro hc; have := congrArg List.length hc; rw [(up_perm _ _ _).length_eq, List.length_append] at this; simp at this)
        have a1 := h' j hj
        have a2 := (f3' j hj).1
        omega
      · exact h'
    subst ne3
    have hnk : ∀ S : Nat, S ≠ kh → (∀ j ∈ slFp hv, j ≠ S) → S ∉ kh :: slFp hv := fun S h1 h2 hc => by
      rcases List.mem_cons.1 hc with h' | h'
      · exact h1 h'
      · exact h2 S h' rfl
    have A3 : SpAt H ks kh kc kd (srC p cl sz ax ay aw ah (.map (.hp kc 0)) (.map (.hp kd 0))) H3 hv' (n + 1) (upH rlt (L.length + 1) L.length (L ++ [(y1, y2, x.2.2.1 + costP dd, h y1 y2, n)])) (alSet (y1, y2) (x.2.2.1 + costP dd) M) K := by
      refine ⟨o3, A2.kk.trans' k3 (fun m hm hl => ?_), k3.get A2.s (hnk _ (by omega) fun j hj => ?_), k3.get A2.c (hnk _ (by omega) fun j hj => ?_), k3.get A2.d (hnk _ (by omega) fun j hj => ?_), f3'⟩
      · rcases List.mem_cons.1 hm with h' | h'
        · omega
        · have := (A.f m h').1; omega
      · have := (A.f j hj).1; omega
      · exact (A.f j hj).2.1
      · exact (A.f j hj).2.2
    refine ⟨H3, hv', ?_, A3, k23, fun i hi => by rw [← l2]; exact f3 i hi⟩
    intro fs e2
    have hbc : X.hb ≤ kc := by omega
    rw [RV_go (l := ⟨.ready, none, _, _, _, _⟩) _ _ _ (by simp (maxDischargeDepth := 8) only [go_sem, reduceIte, reduceCtorEq, Nat.reduceEqDiff, Nat.reduceAdd, Nat.reduceMul, Nat.reduceSub, Nat.reduceLeDiff, Nat.reduceLT, Nat.reduceBEq, Int.reduceToNat, Int.reduceEq, Int.reduceLT, Int.reduceLE, Int.reduceAdd, Int.reduceSub, Int.reduceMul, Int.reduceNeg, roM, spM]; rfl) rfl rfl (by simp (maxDischargeDepth := 8) only [go_sem, reduceIte, reduceCtorEq, Nat.reduceEqDiff, Nat.reduceAdd, Nat.reduceMul, Nat.reduceSub, Nat.reduceLeDiff, Nat.reduceLT, Nat.reduceBEq, Int.reduceToNat, Int.reduceEq, Int.reduceLT, Int.reduceLE, Int.reduceAdd, Int.reduceSub, Int.reduceMul, Int.reduceNeg, roM, spM, hw])]
    rcases hgm with hgm | ⟨w, hgm, hlt⟩
    · simp (maxDischargeDepth := 8) only [go_sem, reduceIte, reduceCtorEq, Nat.reduceEqDiff, Nat.reduceAdd, Nat.reduceMul, Nat.reduceSub, Nat.reduceLeDiff, Nat.reduceLT, Nat.reduceBEq, Int.reduceToNat, Int.reduceEq, Int.reduceLT, Int.reduceLE, Int.reduceAdd, Int.reduceSub, Int.reduceMul, Int.reduceNeg, roM, spM, hw, r_cell_Cost, wv, As, Ac, srC, assoc_cell, gm_getD, gm_some, r_cell_Has, hh, hgm, Option.getD_none, Option.isSome_none, hbc, eset, hH2, hrv.l, hrv.c, hrv.k, hrv.o]
      rw [hr _ A2.kk (low_shut (low_fr (low_frs (low_fr (low_fr (low_fr (low_hp X _) _ _) _ _) _ _) _ _) _ _)) (by simp (maxDischargeDepth := 8) only [go_sem, reduceIte, reduceCtorEq, Nat.reduceEqDiff, Nat.reduceAdd, Nat.reduceMul, Nat.reduceSub, Nat.reduceLeDiff, Nat.reduceLT, Nat.reduceBEq, Int.reduceToNat, Int.reduceEq, Int.reduceLT, Int.reduceLE, Int.reduceAdd, Int.reduceSub, Int.reduceMul, Int.reduceNeg, hw])]
      simp (maxDischargeDepth := 8) only [go_sem, reduceIte, reduceCtorEq, Nat.reduceEqDiff, Nat.reduceAdd, Nat.reduceMul, Nat.reduceSub, Nat.reduceLeDiff, Nat.reduceLT, Nat.reduceBEq, Int.reduceToNat, Int.reduceEq, Int.reduceLT, Int.reduceLE, Int.reduceAdd, Int.reduceSub, Int.reduceMul, Int.reduceNeg, hw]
      generalize hz : RF tb f_heap_Heap_route_open_Push _ _ = z
      obtain rfl := hz.symm.trans (hP _ (by rfl) (by rfl) (by simp (maxDischargeDepth := 8) only [go_sem, reduceIte, reduceCtorEq, Nat.reduceEqDiff, Nat.reduceAdd, Nat.reduceMul, Nat.reduceSub, Nat.reduceLeDiff, Nat.reduceLT, Nat.reduceBEq, Int.reduceToNat, Int.reduceEq, Int.reduceLT, Int.reduceLE, Int.reduceAdd, Int.reduceSub, Int.reduceMul, Int.reduceNeg, hw]))
      simp (maxDischargeDepth := 8) only [go_sem, reduceIte, reduceCtorEq, Nat.reduceEqDiff, Nat.reduceAdd, Nat.reduceMul, Nat.reduceSub, Nat.reduceLeDiff, Nat.reduceLT, Nat.reduceBEq, Int.reduceToNat, Int.reduceEq, Int.reduceLT, Int.reduceLE, Int.reduceAdd, Int.reduceSub, Int.reduceMul, Int.reduceNeg, hw]
      rw [back_some (by have := A.kk.1; show kh < Hj.length; have := hget_lt A.o.hd; omega)]
      rfl
    · have hdl : decide (x.2.2.1 + costP dd < w) = true := decide_eq_true hlt
      simp (maxDischargeDepth := 8) only [go_sem, reduceIte, reduceCtorEq, Nat.reduceEqDiff, Nat.reduceAdd, Nat.reduceMul, Nat.reduceSub, Nat.reduceLeDiff, Nat.reduceLT, Nat.reduceBEq, Int.reduceToNat, Int.reduceEq, Int.reduceLT, Int.reduceLE, Int.reduceAdd, Int.reduceSub, Int.reduceMul, Int.reduceNeg, roM, spM, hw, r_cell_Cost, wv, As, Ac, srC, assoc_cell, gm_getD, gm_some, r_cell_Has, hh, hgm, Option.getD_some, Option.isSome_some, hbc, eset, hH2, hrv.l, hrv.c, hrv.k, hrv.o]
      simp (maxDischargeDepth := 8) only [go_sem, reduceIte, reduceCtorEq, Nat.reduceEqDiff, Nat.reduceAdd, Nat.reduceMul, Nat.reduceSub, Nat.reduceLeDiff, Nat.reduceLT, Nat.reduceBEq, Int.reduceToNat, Int.reduceEq, Int.reduceLT, Int.reduceLE, Int.reduceAdd, Int.reduceSub, Int.reduceMul, Int.reduceNeg, hw, hdl, As, Ac, srC, assoc_cell, hbc, eset, hH2, hrv.l, hrv.c, hrv.k, hrv.o]
      rw [hr _ A2.kk (low_shut (low_fr (low_frs (low_fr (low_fr (low_fr (low_hp X _) _ _) _ _) _ _) _ _) _ _)) (by simp (maxDischargeDepth := 8) only [go_sem, reduceIte, reduceCtorEq, Nat.reduceEqDiff, Nat.reduceAdd, Nat.reduceMul, Nat.reduceSub, Nat.reduceLeDiff, Nat.reduceLT, Nat.reduceBEq, Int.reduceToNat, Int.reduceEq, Int.reduceLT, Int.reduceLE, Int.reduceAdd, Int.reduceSub, Int.reduceMul, Int.reduceNeg, hw])]
      simp (maxDischargeDepth := 8) only [go_sem, reduceIte, reduceCtorEq, Nat.reduceEqDiff, Nat.reduceAdd, Nat.reduceMul, Nat.reduceSub, Nat.reduceLeDiff, Nat.reduceLT, Nat.reduceBEq, Int.reduceToNat, Int.reduceEq, Int.reduceLT, Int.reduceLE, Int.reduceAdd, Int.reduceSub, Int.reduceMul, Int.reduceNeg, hw]
      generalize hz : RF tb f_heap_Heap_route_open_Push _ _ = z
      obtain rfl := hz.symm.trans (hP _ (by rfl) (by rfl) (by simp (maxDischargeDepth := 8) only [go_sem, reduceIte, reduceCtorEq, Nat.reduceEqDiff, Nat.reduceAdd, Nat.reduceMul, Nat.reduceSub, Nat.reduceLeDiff, Nat.reduceLT, Nat.reduceBEq, Int.reduceToNat, Int.reduceEq, Int.reduceLT, Int.reduceLE, Int.reduceAdd, Int.reduceSub, Int.reduceMul, Int.reduceNeg, hw]))
      simp (maxDischargeDepth := 8) only [go_sem, reduceIte, reduceCtorEq, Nat.reduceEqDiff, Nat.reduceAdd, Nat.reduceMul, Nat.reduceSub, Nat.reduceLeDiff, Nat.reduceLT, Nat.reduceBEq, Int.reduceToNat, Int.reduceEq, Int.reduceLT, Int.reduceLE, Int.reduceAdd, Int.reduceSub, Int.reduceMul, Int.reduceNeg, hw]
      rw [back_some (by have := A.kk.1; show kh < Hj.length; have := hget_lt A.o.hd; omega)]
      rfl
theorem spread_take {X : Mem} {H : Hp} {ks kh kc kd kb : Nat} {p : WP} {W : Wd} (hH : X.heap = H) (hW : WorldOwn H p W) (hg : W.Good) (hpk : ks ∉ p.fp) (hw : X.Wf) (hhb : X.hb ≤ ks) (hB : SpB H ks kh kc kd) {cl sz ax ay aw ah : Int} {rv : SV} (hrv : FnV X.dep rv) {h : Int → Int → Int}
    (hr : ∀ Y : Mem, Keep [ks] H Y.heap → Low Y X → Y.Wf → ∀ x y, RV tb rv [.agg [.int .i64 x, .int .i64 y]] Y = some (.int .i64 (h x y), Y)) (f1 f2 t1 t2 : Int) (al : Bool) (e : Option Nat) {N : Nat} (hN : N ≤ 20000) (hh : ∀ a b, 0 ≤ h a b ∧ h a b ≤ 1000000000) (hcs : ∀ c d, okS W cl sz (fun c => hasB ax ay aw ah c.1 c.2) c d = true → h c.1 c.2 ≤ costP d + h (mvC c d).1 (mvC c d).2)
    {Ha : Hp} {hv : SV} {n Bd : Int} {x : Rt} {T : List Rt} {M : List (Cl × Int)} {K : List (Cl × Bool)} (A : SpAt H ks kh kc kd (srC p cl sz ax ay aw ah (.map (.hp kc 0)) (.map (.hp kd 0))) Ha hv n (x :: T) M K) (I : SpI (okS W cl sz (fun c => hasB ax ay aw ah c.1 c.2)) (f1, f2) h N 0 n (x :: T) M K (fun y _ => dK K y = true))
    (hkb : hget Ha kb 0 = some (.cells true [.ptr (.hp kh 0) 0])) (hkb1 : kd < kb ∧ ∀ j ∈ slFp hv, j ≠ kb) {hv' : SV} {H1 : Hp} (u : Option Nat) (o1 : RHeapOwn H1 kh hv' n (rpopL (x :: T))) (k1 : Keep (kh :: slFp hv) Ha H1) (f1' : ∀ j ∈ slFp hv', j ∈ slFp hv) (g : List SBk) (s1 : hget H1 ks 0 = some (.cells true (srC p cl sz ax ay aw ah (.map (.hp kc 0)) (.map (.hp kd 0))))) (d1 : hget H1 kd 0 = some (.map (alV cellW boolV K))) (c1 : hget H1 kc 0 = some (.map (alV cellW intV M))) (kk1 : Keep [ks] H H1) (hdk : dK K (x.1, x.2.1) = false) (hbd : decide (IntKind.i64.wrap (Bd - 1) < 0) = false) (hin : hasB ax ay aw ah x.1 x.2.1 = true) (hKN : K.length + 1 ≤ N) :
    ∃ (m' : Mem) (d : Option Nat), finR ((spM X ks kh kb f1 f2 t1 t2 Bd rv al false .ready none H1 e).fr g u) (.st X.dep 8)
      (KC tb [KI.kp [6, 8, 12, 13, 14], KI.seq ((SCode.kp [6, 8, 12, 13, 14] s_route_search_spread_p12).seq ((SCode.kp [6, 8, 12, 13, 14, 101] s_route_search_spread_p13).seq (SCode.block 2 (SCode.rangef (Opd.t 101) [102, 103] s_route_search_spread_p14 s_route_search_spread_p21)))), KI.block 1]
        (SV.bool (decide (IntKind.i64.wrap (Bd - 1) < 0))) ((SCode.region false [{ dst := none, op := SOp.store 1 [] (Opd.t 12) (Opd.v (SV.bool false)), guard := none, quiet := false }]).seq SCode.ret) SCode.skip
        [(84, SV.bool (decide (IntKind.i64.wrap (Bd - 1) < 0))), (83, SV.int IntKind.i64 (IntKind.i64.wrap (Bd - 1))), (82, SV.int IntKind.i64 (IntKind.i64.wrap (Bd - 1))), (81, SV.int IntKind.i64 Bd), (6, SV.ptr (Bk.st X.dep 0) 0), (8, SV.ptr (Bk.st X.dep 2) 0), (11, SV.ptr (Bk.st X.dep 5) 0), (12, SV.ptr (Bk.st X.dep 6) 0), (13, SV.ptr (Bk.st X.dep 7) 0), (14, SV.ptr (Bk.st (X.dep + 1 + 1) 0) 0)]
        (((spM X ks kh kb f1 f2 t1 t2 (IntKind.i64.wrap (Bd - 1)) rv al false .busy none H1 e).fr g u).fr [.cells true [.int .i64 x.1, .int .i64 x.2.1, .int .i64 x.2.2.1, .int .i64 x.2.2.2.1]] none)) = some (.bool true, (m'.frs [] e).fr g (escMin u d)) ∧
      ∃ Hr hv2 n2 L2 M2, m' = spM X ks kh kb f1 f2 t1 t2 (IntKind.i64.wrap (Bd - 1)) rv al false .ready none Hr e ∧ SpAt H ks kh kc kd (srC p cl sz ax ay aw ah (.map (.hp kc 0)) (.map (.hp kd 0))) Hr hv2 n2 L2 M2 (alSet (x.1, x.2.1) true K) ∧
        SpI (okS W cl sz (fun c => hasB ax ay aw ah c.1 c.2)) (f1, f2) h N 0 n2 L2 M2 (alSet (x.1, x.2.1) true K) (fun y _ => dK (alSet (x.1, x.2.1) true K) y = true) ∧ (alSet (x.1, x.2.1) true K).length = K.length + 1 ∧ hget Hr kb 0 = some (.cells true [.ptr (.hp kh 0) 0]) ∧ ∀ j ∈ slFp hv2, j ≠ kb := by
  have hkb' : X.hb ≤ kd := by have := hB.s; have := hB.h; have := hB.n; omega
  have eset : assocSet (.agg [.int .i64 x.1, .int .i64 x.2.1]) (.bool true) (alV cellW boolV K) = alV cellW boolV (alSet (x.1, x.2.1) true K) := set_al seq_cell (x.1, x.2.1) true K
  obtain ⟨H2, hH2⟩ : ∃ H2, H1.set kd (0, SBk.map (alV cellW boolV (alSet (x.1, x.2.1) true K))) = H2 := ⟨_, rfl⟩
  have k2 : Keep [kd] H1 H2 := by rw [← hH2]; exact Keep.set (by simp) _ _
  have l2 : H2.length = H1.length := by rw [← hH2, List.length_set]
  have kdl := hget_lt d1
  have d2 : hget H2 kd 0 = some (.map (alV cellW boolV (alSet (x.1, x.2.1) true K))) := by rw [← hH2, hget_set_eq kdl, if_pos rfl]
  have s2 := k2.get s1 (by simp; have := hB.s; have := hB.h; have := hB.n; omega)
  have c2 := k2.get c1 (by simp; have := hB.s; have := hB.h; have := hB.n; omega)
  have hd : ∀ c d, okS W cl sz (fun c => hasB ax ay aw ah c.1 c.2) c d = true → isDir d = true := fun c d hk => by
    simp only [okS, Bool.and_eq_true] at hk
    have h1 := steps_dir hk.1.2
    simp only [stepOk, Bool.and_eq_true] at h1
    exact h1.1.1
  have hm := I.min hN hd hh
  obtain ⟨q1, q2, q3, q4⟩ := I.take hN hd hh hcs hdk hKN
  generalize hK' : alSet (x.1, x.2.1) true K = K' at *
  generalize hok : okS W cl sz (fun c => hasB ax ay aw ah c.1 c.2) = ok at *
  have hBs := hB.s
  have hBh := hB.h
  have hBn := hB.n
  have fp1 := o1.ow.fp
  have A2 : SpAt H ks kh kc kd (srC p cl sz ax ay aw ah (.map (.hp kc 0)) (.map (.hp kd 0))) H2 hv' n (rpopL (x :: T)) M K' :=
    ⟨o1.keep k2 (by simp; omega) (fun j hj => by have := A.f j (f1' j hj); simp; omega), kk1.trans' k2 (fun m hm hl => by simp at hm; omega), s2, c2, d2, fun j hj => A.f j (f1' j hj)⟩
  have kbl := hget_lt hkb
  have hkb1' : hget H1 kb 0 = some (.cells true [.ptr (.hp kh 0) 0]) := k1.get hkb (fun hc => by
    rcases List.mem_cons.1 hc with h' | h'
    · omega
    · exact hkb1.2 _ h' rfl)
  have hkb2 := k2.get hkb1' (by simp; omega)
  have kbl2 := hget_lt hkb1'
  simp (maxDischargeDepth := 8) only [go_sem, reduceIte, reduceCtorEq, Nat.reduceEqDiff, Nat.reduceAdd, Nat.reduceMul, Nat.reduceSub, Nat.reduceLeDiff, Nat.reduceLT, Nat.reduceBEq, Int.reduceToNat, Int.reduceEq, Int.reduceLT, Int.reduceLE, Int.reduceAdd, Int.reduceSub, Int.reduceMul, Int.reduceNeg, spM, hw, hbd, s1, srC, d1, hkb', assoc_cell, eset, hH2, s2, r_class_Around]
  obtain ⟨HA, hHA⟩ : ∃ HA, H2 ++ [(0, SBk.cells true [.ptr (.hp p.k 0) 0]), (0, .cells true [.int .i64 cl, .int .i64 sz]), (0, .cells true [.int .i64 x.1, .int .i64 x.2.1])] = HA := ⟨_, rfl⟩
  have kA : Keep [] H2 HA := by rw [← hHA]; exact Keep.app _ _ _
  have lA : HA.length = H2.length + 3 := by rw [← hHA, List.length_append]; rfl
  have a0 : hget HA H2.length 0 = some (.cells true [.ptr (.hp p.k 0) 0]) := by rw [← hHA]; exact hget_new0 0 _
  have a1 : hget HA (H2.length + 1) 0 = some (.cells true [.int .i64 cl, .int .i64 sz]) := by rw [← hHA]; exact hget_newi 1 0 _
  have a2 : hget HA (H2.length + 2) 0 = some (.cells true [.int .i64 x.1, .int .i64 x.2.1]) := by rw [← hHA]; exact hget_newi 2 0 _
  obtain ⟨HB, hHB⟩ : ∃ HB, HA ++ [(0, SBk.cells true [.int .i64 x.1, .int .i64 x.2.1]), (0, .cells true [.int .i64 0, .int .i64 0, .int .i64 W.w, .int .i64 W.h])] = HB := ⟨_, rfl⟩
  have kB : Keep [] HA HB := by rw [← hHB]; exact Keep.app _ _ _
  have lB : HB.length = HA.length + 2 := by rw [← hHB, List.length_append]; rfl
  have b4 : hget HB HA.length 0 = some (.cells true [.int .i64 x.1, .int .i64 x.2.1]) := by rw [← hHB]; exact hget_new0 0 _
  have b5 : hget HB (HA.length + 1) 0 = some (.cells true [.int .i64 0, .int .i64 0, .int .i64 W.w, .int .i64 W.h]) := by rw [← hHB]; exact hget_newi 1 0 _
  have ko : ∀ {A' B' : Hp} {hv n L M K}, Keep [] A' B' → SpAt H ks kh kc kd (srC p cl sz ax ay aw ah (.map (.hp kc 0)) (.map (.hp kd 0))) A' hv n L M K → SpAt H ks kh kc kd (srC p cl sz ax ay aw ah (.map (.hp kc 0)) (.map (.hp kd 0))) B' hv n L M K := fun k a =>
    ⟨a.o.keep k (by simp) (by simp), a.kk.trans' k (by simp), k.get a.s (by simp), k.get a.c (by simp), k.get a.d (by simp), a.f⟩
  have AB := ko kB (ko kA A2)
  have hAr : ∀ {Hj hv n L M}, SpAt H ks kh kc kd (srC p cl sz ax ay aw ah (.map (.hp kc 0)) (.map (.hp kd 0))) Hj hv n L M K' → Keep (kh :: kc :: slFp hv') HB Hj → ArAt (X.dep + 1 + 1 + 1) (H2.length + 2) H2.length (H2.length + 1) HA.length p W cl sz x.1 x.2.1 (roM X ks kh kb f1 f2 t1 t2 (IntKind.i64.wrap (Bd - 1)) rv al e g u H2.length x .ready Hj) := fun {Hj hv n L M} a k => by
    have nn : ∀ n, H2.length ≤ n → n ∉ kh :: kc :: slFp hv' := fun n hn hc => by
      have e1 := hget_lt c2
      rcases List.mem_cons.1 hc with h' | hc
      · omega
      · rcases List.mem_cons.1 hc with h' | hc
        · omega
        · have := fp1 _ hc; omega
    exact ⟨rfl, by simp (maxDischargeDepth := 8) only [go_sem, reduceIte, reduceCtorEq, Nat.reduceEqDiff, Nat.reduceAdd, Nat.reduceMul, Nat.reduceSub, Nat.reduceLeDiff, Nat.reduceLT, Nat.reduceBEq, Int.reduceToNat, Int.reduceEq, Int.reduceLT, Int.reduceLE, Int.reduceAdd, Int.reduceSub, Int.reduceMul, Int.reduceNeg, hw], k.get (kB.get a2 (by simp)) (nn _ (by omega)), k.get (kB.get a0 (by simp)) (nn _ (by omega)), k.get (kB.get a1 (by simp)) (nn _ (by omega)), (hW.keep a.kk (fun i hi hc => by simp at hc; subst hc; exact hpk hi)).at_.sub (by simp (maxDischargeDepth := 8) only [go_sem, reduceIte, reduceCtorEq, Nat.reduceEqDiff, Nat.reduceAdd, Nat.reduceMul, Nat.reduceSub, Nat.reduceLeDiff, Nat.reduceLT, Nat.reduceBEq, Int.reduceToNat, Int.reduceEq, Int.reduceLT, Int.reduceLE, Int.reduceAdd, Int.reduceSub, Int.reduceMul, Int.reduceNeg]), k.get b4 (nn _ (by omega)), k.get b5 (nn _ (by omega))⟩
  generalize hz : RF tb f_class_Around_1 _ _ = z
  replace hz : RF tb f_class_Around_1 [.yld (.st (X.dep + 1 + 1) 1), .ptr (.hp (H2.length + 2) 0) 0, .ptr (.hp H2.length 0) 0, .ptr (.hp (H2.length + 1) 0) 0] (roM X ks kh kb f1 f2 t1 t2 (IntKind.i64.wrap (Bd - 1)) rv al e g u H2.length x .ready HA) = z := by rw [← hHA]; exact hz
  refine around_rangeZ (d := X.dep + 1 + 1 + 1) (p := p) hz hg cl sz x.1 x.2.1 (fun M1 j m v => ∃ Hj hvj nj Lj Mj, m = roM X ks kh kb f1 f2 t1 t2 (IntKind.i64.wrap (Bd - 1)) rv al e g u H2.length x .ready Hj ∧ SpAt H ks kh kc kd (srC p cl sz ax ay aw ah (.map (.hp kc 0)) (.map (.hp kd 0))) Hj hvj nj Lj Mj K' ∧
      SpI ok (f1, f2) h N j nj Lj Mj K' (fun y e => dK K' y = true ∧ (y ≠ (x.1, x.2.1) ∨ e < 8 - (j : Int))) ∧ gM Mj (x.1, x.2.1) = some x.2.2.1 ∧ Keep (kh :: kc :: slFp hv') HB Hj ∧ (∀ i ∈ slFp hvj, i ∈ slFp hv' ∨ HB.length ≤ i) ∧ ((v = none ∧ Hj.length = HB.length ∧ ∀ i ∈ slFp hvj, i ∈ slFp hv') ∨ v = some kh)) (fun _ _ _ _ => False) (by omega) ?_ ?_ ?_ ?_ ?_ ?_ ?_ ?_
  · have := hAr AB (Keep.refl _ _)
    rw [← hHB] at this
    exact this
  · exact (hW.keep (ko kA A2).kk (fun i hi hc => by simp at hc; subst hc; exact hpk hi)).at_.sub (by simp (maxDischargeDepth := 8) only [go_sem, reduceIte, reduceCtorEq, Nat.reduceEqDiff, Nat.reduceAdd, Nat.reduceMul, Nat.reduceSub, Nat.reduceLeDiff, Nat.reduceLT, Nat.reduceBEq, Int.reduceToNat, Int.reduceEq, Int.reduceLT, Int.reduceLE, Int.reduceAdd, Int.reduceSub, Int.reduceMul, Int.reduceNeg])
  · show H2.length + 2 < HA.length; omega
  · show H2.length < HA.length; omega
  · show H2.length + 1 < HA.length; omega
  · refine ⟨HB, hv', n, rpopL (x :: T), M, by rw [← hHB]; rfl, AB, ?_, q1, Keep.refl _ _, fun i hi => .inl hi, .inl ⟨rfl, rfl, fun i hi => hi⟩⟩
    exact q2
  · rintro M1 j j' m v hj hj8 hno hst - ⟨Hj, hvj, nj, Lj, Mj, rfl, Aj, Ij, gj, kj, fj, vj⟩
    generalize hdd : (8 : Int) - ((j' + 1 : Nat) : Int) = dd at *
    have nlj := Ij.nl
    have klj := Ij.kl
    have hY := spread_yield (kb := kb) hw hhb hB hrv hr f1 f2 t1 t2 (IntKind.wrap .i64 (Bd - 1)) al e g u H2.length x Aj (by omega) (by omega) (by omega) dd (x.1 + turnX dd) (x.2.1 + turnY dd)
    have hdir : isDir dd = true := by
      have h1 := steps_dir hst
      simp only [stepOk, Bool.and_eq_true] at h1
      exact h1.1.1
    have Im := Ij.more (j' := j) (Nat.le_refl _) (R' := fun y e => dK K' y = true ∧ (y ≠ (x.1, x.2.1) ∨ e < dd)) (fun y e hR => ⟨hR.1, fun hk => ⟨hR.1, by
      rcases hR.2 with h' | h'
      · exact .inl h'
      · by_cases hy : y = (x.1, x.2.1)
        · right
          subst hy
          by_cases he : e < 8 - (j : Int)
          · exact he
          · exfalso
            have hi := hno (7 - e).toNat (by omega) (by omega)
            rw [show (8 : Int) - (((7 - e).toNat + 1 : Nat) : Int) = e by omega] at hi
            rw [← hok] at hk
            simp only [okS, Bool.and_eq_true] at hk
            rw [hk.1.2] at hi
            cases hi
        · exact .inl hy⟩⟩)
    have hokd : ok (x.1, x.2.1) dd = hasB ax ay aw ah (x.1 + turnX dd) (x.2.1 + turnY dd) := by
      rw [← hok]
      simp only [okS, mvC, hin, hst, Bool.true_and]
    have hRn : ∀ y e, (dK K' y = true ∧ (y ≠ (x.1, x.2.1) ∨ e < 8 - (j' : Int))) → (dK K' y = true ∧ (y ≠ (x.1, x.2.1) ∨ e < dd)) ∨ (y = (x.1, x.2.1) ∧ e = dd) := fun y e hR => by
      by_cases hy : y = (x.1, x.2.1)
      · rcases hR.2 with h' | h'
        · exact absurd hy h'
        · by_cases he : e = dd
          · exact .inr ⟨hy, he⟩
          · exact .inl ⟨hR.1, .inr (by omega)⟩
      · exact .inl ⟨hR.1, .inl hy⟩
    by_cases hcond : hasB ax ay aw ah (x.1 + turnX dd) (x.2.1 + turnY dd) = true ∧ (gM Mj (x.1 + turnX dd, x.2.1 + turnY dd) = none ∨ ∃ w, gM Mj (x.1 + turnX dd, x.2.1 + turnY dd) = some w ∧ x.2.2.1 + costP dd < w)
    · obtain ⟨Hj', hvj', y1, y2, y3, y4⟩ := hY.2 hcond
      have kj' : Keep (kh :: kc :: slFp hv') HB Hj' := kj.trans' y3 (fun m hm hl => by
        rcases List.mem_cons.1 hm with h' | hm
        · simp [h']
        · rcases List.mem_cons.1 hm with h' | hm
          · simp [h']
          · rcases fj m hm with h' | h'
            · simp [h']
            · omega)
      refine ⟨_, _, true, y1, hAr y2 kj', .inr ⟨kh, rfl, ?_⟩, fun _ => ⟨Hj', hvj', _, _, _, rfl, y2, Im.relax hd q4 gj (by omega) (by rw [hokd]; exact hcond.1) hcond.2 hj hRn rfl rfl, ?_, kj', fun i hi => ?_, .inr ?_⟩, fun h => (by cases h)⟩
      · show kh < HA.length; omega
      · unfold gM
        rw [alGet_set, if_neg]
        · exact gj
        · intro hc
          have h1 := congrArg Prod.fst hc
          have h2 := congrArg Prod.snd hc
          dsimp only at h1 h2
          have : isDir dd = false := by
            unfold turnX at h1
            unfold turnY at h2
            unfold isDir
            simp only [Bool.and_eq_false_iff, decide_eq_false_iff_not]
            omega
          rw [hdir] at this
          cases this
      · rcases y4 i hi with h' | h'
        · exact fj i h'
        · have := kj.1; exact .inr (by omega)
      · rcases vj with ⟨rfl, _⟩ | rfl
        · rfl
        · simp [escMin]
    · refine ⟨_, none, true, hY.1 hcond, hAr Aj kj, .inl rfl, fun _ => ⟨Hj, hvj, nj, Lj, Mj, rfl, Aj, Im.relaxNo q4 gj (fun hk => ?_) (by omega) hRn, gj, kj, fj, ?_⟩, fun h => (by cases h)⟩
      · rw [hokd] at hk
        show ∃ w, gM Mj (x.1 + turnX dd, x.2.1 + turnY dd) = some w ∧ _
        cases hgm : gM Mj (x.1 + turnX dd, x.2.1 + turnY dd) with
        | none => exact absurd ⟨hk, .inl hgm⟩ hcond
        | some w => exact ⟨w, rfl, Int.not_lt.1 fun hlt => hcond ⟨hk, .inr ⟨w, hgm, hlt⟩⟩⟩
      · have : escMin v none = v := by cases v <;> rfl
        rw [this]
        exact vj
  · rintro M1 M' U - rfl hA' - (⟨j, hj8, hno, Hj, hvj, nj, Lj, Mj, rfl, Aj, Ij, gj, kj, fj, vj⟩ | ⟨_, _, h⟩)
    · have I0 := Ij.more (j' := 0) (Nat.zero_le _) (R' := fun y _ => dK K' y = true) (fun y e hR => ⟨hR, fun hk => ⟨hR, by
        by_cases hy : y = (x.1, x.2.1)
        · right
          subst hy
          have hdr := hd _ _ hk
          simp only [isDir, Bool.and_eq_true, decide_eq_true_eq] at hdr
          by_cases he : e < 8 - (j : Int)
          · exact he
          · exfalso
            have hi := hno (7 - e).toNat (by omega)
            rw [show (8 : Int) - (((7 - e).toNat + 1 : Nat) : Int) = e by omega] at hi
            rw [← hok] at hk
            simp only [okS, Bool.and_eq_true] at hk
            rw [hk.1.2] at hi
            cases hi
        · exact .inl hy⟩⟩)
      have hkbj : hget Hj kb 0 = some (.cells true [.ptr (.hp kh 0) 0]) := kj.get (kB.get (kA.get hkb2 (by simp)) (by simp)) (fun hc => by
        rcases List.mem_cons.1 hc with h' | hc
        · omega
        · rcases List.mem_cons.1 hc with h' | hc
          · omega
          · exact hkb1.2 _ (f1' _ hc) rfl)
      have kjl := kj.1
      simp (maxDischargeDepth := 8) only [go_sem, reduceIte, reduceCtorEq, Nat.reduceEqDiff, Nat.reduceAdd, Nat.reduceMul, Nat.reduceSub, Nat.reduceLeDiff, Nat.reduceLT, Nat.reduceBEq, Int.reduceToNat, Int.reduceEq, Int.reduceLT, Int.reduceLE, Int.reduceAdd, Int.reduceSub, Int.reduceMul, Int.reduceNeg, roM, spM, hw]
      rcases vj with ⟨rfl, hl, hfp⟩ | rfl
      · have hcg : ∀ i, i < H1.length → ((Hj.take HA.length).take H1.length)[i]? = Hj[i]? := fun i hi => by
          rw [List.take_take, List.getElem?_take, if_pos (by omega)]
        have hlen : ((Hj.take HA.length).take H1.length).length = H1.length := by
          rw [List.take_take, List.length_take]; omega
        refine ⟨spM X ks kh kb f1 f2 t1 t2 (IntKind.wrap .i64 (Bd - 1)) rv al false .ready none ((Hj.take HA.length).take H1.length) e, none, by rfl, _, hvj, nj, Lj, Mj, rfl, Aj.congr hB (fun i hi => hcg i ?_) (by have := kk1.1; omega), I0, q3, ?_, fun i hi => hkb1.2 i (f1' i (hfp i hi))⟩
        · have e1 := hget_lt c1
          rcases hi with h' | rfl | rfl | rfl | h'
          · have := kk1.1; omega
          · omega
          · omega
          · omega
          · have := fp1 i (hfp i h'); omega
        · rw [hget_congr (hcg kb (by omega))]; exact hkbj
      · rw [back_some (by show kh < H1.length; have := hget_lt c1; omega), show escOk HA.length (some kh) = false from escOk_some (by have := hget_lt c1; omega)]
        refine ⟨spM X ks kh kb f1 f2 t1 t2 (IntKind.wrap .i64 (Bd - 1)) rv al false .ready none Hj e, some kh, by rfl, Hj, hvj, nj, Lj, Mj, rfl, Aj, I0, q3, hkbj, fun i hi => ?_⟩
        rcases fj i hi with h' | h'
        · exact hkb1.2 i (f1' i h')
        · omega
    · exact h.elim
/-- What is left behind a round. -/
def RdPost (X : Mem) (H : Hp) (ks kh kc kd kb : Nat) (p : WP) (W : Wd) (cl sz ax ay aw ah : Int) (rv : SV) (h : Int → Int → Int) (f1 f2 t1 t2 : Int) (al : Bool) (e : Option Nat) (N : Nat) (B : Int) (T : List Rt) (M : List (Cl × Int)) (K : List (Cl × Bool)) (m' : Mem) (go : Bool) : Prop :=
  (go = true → ∃ Hr hv2 n2 L2 M2 K2, m' = spM X ks kh kb f1 f2 t1 t2 (IntKind.wrap .i64 (B - (K2.length : Int))) rv al false .ready none Hr e ∧ SpAt H ks kh kc kd (srC p cl sz ax ay aw ah (.map (.hp kc 0)) (.map (.hp kd 0))) Hr hv2 n2 L2 M2 K2 ∧
        SpI (okS W cl sz (fun c => hasB ax ay aw ah c.1 c.2)) (f1, f2) h N 0 n2 L2 M2 K2 (fun y _ => dK K2 y = true) ∧ hget Hr kb 0 = some (.cells true [.ptr (.hp kh 0) 0]) ∧ (∀ j ∈ slFp hv2, j ≠ kb) ∧ ((K2.length = K.length ∧ L2.length = T.length) ∨ K2.length = K.length + 1)) ∧
      (go = false → ∃ Hr hv2 n2 L2 res Bd2, m' = spM X ks kh kb f1 f2 t1 t2 Bd2 rv al res .done (some .ret) Hr e ∧ SpAt H ks kh kc kd (srC p cl sz ax ay aw ah (.map (.hp kc 0)) (.map (.hp kd 0))) Hr hv2 n2 L2 M K ∧
        ((res = true ∧ al = false ∧ ∃ best, gM M (t1, t2) = some best ∧ SFin (okS W cl sz (fun c => hasB ax ay aw ah c.1 c.2)) (f1, f2) (gM M) (dK K) (fun c => h c.1 c.2) (some best)) ∨ (res = false ∧ B < N)))
theorem wrap_pred {B : Int} {k : Int} (h1 : -9223372036854775808 ≤ B ∧ B ≤ 9223372036854775807) (h2 : 0 ≤ k ∧ k ≤ 1000000) : IntKind.wrap .i64 (IntKind.wrap .i64 (B - k) - 1) = IntKind.wrap .i64 (B - (k + 1)) := by
  simp only [IntKind.wrap, IntKind.bits, IntKind.signed]
  simp
  omega
theorem pth_in {W : Wd} {cl sz : Int} {inR : Cl → Bool} {s1 s2 : Int} (h0 : inR (s1, s2) = true ∧ W.stands cl sz s1 s2 = true) {c : Cl} {v : Int} (h : Pth (okS W cl sz inR) (s1, s2) c v) : inR c = true ∧ W.stands cl sz c.1 c.2 = true := by
  induction h with
  | nil => exact h0
  | step h hk ih =>
    simp only [okS, Bool.and_eq_true] at hk
    refine ⟨hk.2, ?_⟩
    have h2 := hk.1.2
    simp only [Wd.steps, Bool.and_eq_true] at h2
    exact h2.1.2
theorem spread_round {X : Mem} {H : Hp} {ks kh kc kd kb : Nat} {p : WP} {W : Wd} (hH : X.heap = H) (hW : WorldOwn H p W) (hg : W.Good) (hpk : ks ∉ p.fp) (hw : X.Wf) (hhb : X.hb ≤ ks) (hB : SpB H ks kh kc kd) {cl sz ax ay aw ah : Int} {rv : SV} (hrv : FnV X.dep rv) {h : Int → Int → Int}
    (hr : ∀ Y : Mem, Keep [ks] H Y.heap → Low Y X → Y.Wf → ∀ x y, RV tb rv [.agg [.int .i64 x, .int .i64 y]] Y = some (.int .i64 (h x y), Y)) (f1 f2 t1 t2 : Int) (al : Bool) (e : Option Nat) {N : Nat} (hN : N ≤ 20000) (hh : ∀ a b, 0 ≤ h a b ∧ h a b ≤ 1000000000) (hcs : ∀ c d, okS W cl sz (fun c => hasB ax ay aw ah c.1 c.2) c d = true → h c.1 c.2 ≤ costP d + h (mvC c d).1 (mvC c d).2)
    {Ha : Hp} {hv : SV} {n B Bd : Int} {x : Rt} {T : List Rt} {M : List (Cl × Int)} {K : List (Cl × Bool)} (A : SpAt H ks kh kc kd (srC p cl sz ax ay aw ah (.map (.hp kc 0)) (.map (.hp kd 0))) Ha hv n (x :: T) M K) (I : SpI (okS W cl sz (fun c => hasB ax ay aw ah c.1 c.2)) (f1, f2) h N 0 n (x :: T) M K (fun y _ => dK K y = true))
    (hkb : hget Ha kb 0 = some (.cells true [.ptr (.hp kh 0) 0])) (hkb1 : kd < kb ∧ ∀ j ∈ slFp hv, j ≠ kb) {hv' : SV} {H1 : Hp} (u : Option Nat) (o1 : RHeapOwn H1 kh hv' n (rpopL (x :: T))) (k1 : Keep (kh :: slFp hv) Ha H1) (f1' : ∀ j ∈ slFp hv', j ∈ slFp hv) (g : List SBk) (hBd : Bd = IntKind.wrap .i64 (B - (K.length : Int))) (hBr : -9223372036854775808 ≤ B ∧ B ≤ 9223372036854775807) (h0 : hasB ax ay aw ah f1 f2 = true ∧ W.stands cl sz f1 f2 = true) (hcnt : ∀ l : List Cl, l.Nodup → (∀ c ∈ l, hasB ax ay aw ah c.1 c.2 = true ∧ W.stands cl sz c.1 c.2 = true) → l.length ≤ N) :
    ∃ (m' : Mem) (d : Option Nat) (go : Bool), RV tb (.yld (.st X.dep 8)) [.agg [.int .i64 x.1, .int .i64 x.2.1, .int .i64 x.2.2.1, .int .i64 x.2.2.2.1]] (((((spM X ks kh kb f1 f2 t1 t2 Bd rv al false .ready none Ha e).hp H1).frs [] e).fr g u)) = some (.bool go, (m'.frs [] e).fr g (escMin u d)) ∧
      RdPost X H ks kh kc kd kb p W cl sz ax ay aw ah rv h f1 f2 t1 t2 al e N B T M K m' go := by
  have hBs := hB.s
  have hBh := hB.h
  have hBn := hB.n
  have nin : ∀ S : Nat, S ≠ kh → (∀ j ∈ slFp hv, j ≠ S) → S ∉ kh :: slFp hv := fun S h1 h2 hc => by
    rcases List.mem_cons.1 hc with h' | h'
    · exact h1 h'
    · exact h2 S h' rfl
  have s1 : hget H1 ks 0 = _ := k1.get A.s (nin _ (by omega) fun j hj => by have := (A.f j hj).1; omega)
  have d1 : hget H1 kd 0 = _ := k1.get A.d (nin _ (by omega) fun j hj => (A.f j hj).2.2)
  have c1 : hget H1 kc 0 = _ := k1.get A.c (nin _ (by omega) fun j hj => (A.f j hj).2.1)
  have kk1 : Keep [ks] H H1 := A.kk.trans' k1 (fun m hm hl => by
    rcases List.mem_cons.1 hm with h' | h'
    · omega
    · have := (A.f m h').1; omega)
  have hkb1' : hget H1 kb 0 = some (.cells true [.ptr (.hp kh 0) 0]) := k1.get hkb (nin _ (by omega) hkb1.2)
  have A1 : SpAt H ks kh kc kd (srC p cl sz ax ay aw ah (.map (.hp kc 0)) (.map (.hp kd 0))) H1 hv' n (rpopL (x :: T)) M K := ⟨o1, kk1, s1, c1, d1, fun j hj => A.f j (f1' j hj)⟩
  have hd : ∀ c d, okS W cl sz (fun c => hasB ax ay aw ah c.1 c.2) c d = true → isDir d = true := fun c d hk => by
    simp only [okS, Bool.and_eq_true] at hk
    have h1 := steps_dir hk.1.2
    simp only [stepOk, Bool.and_eq_true] at h1
    exact h1.1.1
  have hpi : ∀ c v, Pth (okS W cl sz (fun c => hasB ax ay aw ah c.1 c.2)) (f1, f2) c v → hasB ax ay aw ah c.1 c.2 = true ∧ W.stands cl sz c.1 c.2 = true := fun c v hp => pth_in (inR := fun c => hasB ax ay aw ah c.1 c.2) h0 hp
  have hxi : hasB ax ay aw ah x.1 x.2.1 = true ∧ W.stands cl sz x.1 x.2.1 = true := by
    obtain ⟨_, _, _, hp⟩ := I.iv.e _ _ (I.min hN hd hh).2.1
    exact hpi _ _ hp
  have hin := hxi.1
  have hcK : dK K (x.1, x.2.1) = false → K.length + 1 ≤ N := fun hdk => by
    have hno : (x.1, x.2.1) ∉ K.map Prod.fst := fun hm => by rw [(dK_iff I.kt).2 hm] at hdk; cases hdk
    have := hcnt ((x.1, x.2.1) :: K.map Prod.fst) (List.nodup_cons.2 ⟨hno, I.kn⟩) (fun c hc => by
      rcases List.mem_cons.1 hc with rfl | hc
      · exact hxi
      · obtain ⟨v, hv, _⟩ := I.iv.dm c ((dK_iff I.kt).2 hc)
        exact hpi _ _ (I.iv.p _ _ hv))
    simpa using this
  have b0 := I.kl
  have wB : IntKind.wrap .i64 (Bd - 1) = IntKind.wrap .i64 (B - ((K.length : Int) + 1)) := by rw [hBd]; exact wrap_pred (by omega) (by omega)
  have rest : dK K (x.1, x.2.1) = false → ∃ (m' : Mem) (d : Option Nat) (go : Bool), finR ((spM X ks kh kb f1 f2 t1 t2 Bd rv al false .ready none H1 e).fr g u) (.st X.dep 8)
      (KC tb [KI.kp [6, 8, 12, 13, 14], KI.seq ((SCode.kp [6, 8, 12, 13, 14] s_route_search_spread_p12).seq ((SCode.kp [6, 8, 12, 13, 14, 101] s_route_search_spread_p13).seq (SCode.block 2 (SCode.rangef (Opd.t 101) [102, 103] s_route_search_spread_p14 s_route_search_spread_p21)))), KI.block 1]
        (SV.bool (decide (IntKind.i64.wrap (Bd - 1) < 0))) ((SCode.region false [{ dst := none, op := SOp.store 1 [] (Opd.t 12) (Opd.v (SV.bool false)), guard := none, quiet := false }]).seq SCode.ret) SCode.skip
        [(84, SV.bool (decide (IntKind.i64.wrap (Bd - 1) < 0))), (83, SV.int IntKind.i64 (IntKind.i64.wrap (Bd - 1))), (82, SV.int IntKind.i64 (IntKind.i64.wrap (Bd - 1))), (81, SV.int IntKind.i64 Bd), (6, SV.ptr (Bk.st X.dep 0) 0), (8, SV.ptr (Bk.st X.dep 2) 0), (11, SV.ptr (Bk.st X.dep 5) 0), (12, SV.ptr (Bk.st X.dep 6) 0), (13, SV.ptr (Bk.st X.dep 7) 0), (14, SV.ptr (Bk.st (X.dep + 1 + 1) 0) 0)]
        (((spM X ks kh kb f1 f2 t1 t2 (IntKind.i64.wrap (Bd - 1)) rv al false .busy none H1 e).fr g u).fr [.cells true [.int .i64 x.1, .int .i64 x.2.1, .int .i64 x.2.2.1, .int .i64 x.2.2.2.1]] none)) = some (.bool go, (m'.frs [] e).fr g (escMin u d)) ∧
      RdPost X H ks kh kc kd kb p W cl sz ax ay aw ah rv h f1 f2 t1 t2 al e N B T M K m' go := by
    intro hdk
    cases hbd : decide (IntKind.i64.wrap (Bd - 1) < 0) with
    | true =>
      simp (maxDischargeDepth := 8) only [go_sem, reduceIte, reduceCtorEq, Nat.reduceEqDiff, Nat.reduceAdd, Nat.reduceMul, Nat.reduceSub, Nat.reduceLeDiff, Nat.reduceLT, Nat.reduceBEq, Int.reduceToNat, Int.reduceEq, Int.reduceLT, Int.reduceLE, Int.reduceAdd, Int.reduceSub, Int.reduceMul, Int.reduceNeg, spM, hw, hbd]
      refine ⟨spM X ks kh kb f1 f2 t1 t2 (IntKind.wrap .i64 (Bd - 1)) rv al false .done (some .ret) (H1.take H1.length) e, none, false, by rfl, fun h => (by cases h), fun _ => ⟨_, hv', n, rpopL (x :: T), false, _, rfl, ?_, .inr ⟨rfl, ?_⟩⟩⟩
      · rw [List.take_length]; exact A1
      · have := of_decide_eq_true hbd
        rw [wB] at this
        have h2 := hcK hdk
        rcases Int.lt_or_le B N with h' | h'
        · exact h'
        · rw [wrap_small (by omega) (by omega)] at this
          omega
    | false =>
      obtain ⟨m', d, e1, Hr, hv2, n2, L2, M2, e2, e3, e4, e5, e6, e7⟩ := spread_take hH hW hg hpk hw hhb hB hrv hr f1 f2 t1 t2 al e hN hh hcs A I hkb hkb1 u o1 k1 f1' g s1 d1 c1 kk1 hdk hbd hin (hcK hdk)
      rw [hbd] at e1
      refine ⟨m', d, true, e1, fun _ => ⟨Hr, hv2, n2, L2, M2, _, by rw [e2, e5, wB]; rfl, e3, e4, e6, e7, .inr e5⟩, fun h => (by cases h)⟩
  rw [RV_go (l := ⟨.ready, none, _, _, _, _⟩) _ _ _ (by simp (maxDischargeDepth := 8) only [go_sem, reduceIte, reduceCtorEq, Nat.reduceEqDiff, Nat.reduceAdd, Nat.reduceMul, Nat.reduceSub, Nat.reduceLeDiff, Nat.reduceLT, Nat.reduceBEq, Int.reduceToNat, Int.reduceEq, Int.reduceLT, Int.reduceLE, Int.reduceAdd, Int.reduceSub, Int.reduceMul, Int.reduceNeg, spM]; rfl) rfl rfl (by simp (maxDischargeDepth := 8) only [go_sem, reduceIte, reduceCtorEq, Nat.reduceEqDiff, Nat.reduceAdd, Nat.reduceMul, Nat.reduceSub, Nat.reduceLeDiff, Nat.reduceLT, Nat.reduceBEq, Int.reduceToNat, Int.reduceEq, Int.reduceLT, Int.reduceLE, Int.reduceAdd, Int.reduceSub, Int.reduceMul, Int.reduceNeg, spM, hw])]
  simp (maxDischargeDepth := 8) only [go_sem, reduceIte, reduceCtorEq, Nat.reduceEqDiff, Nat.reduceAdd, Nat.reduceMul, Nat.reduceSub, Nat.reduceLeDiff, Nat.reduceLT, Nat.reduceBEq, Int.reduceToNat, Int.reduceEq, Int.reduceLT, Int.reduceLE, Int.reduceAdd, Int.reduceSub, Int.reduceMul, Int.reduceNeg, spM, hw, s1, srC, d1, c1, assoc_cell, dk_getD]
  cases hdk : dK K (x.1, x.2.1) with
  | true =>
    simp (maxDischargeDepth := 8) only [go_sem, reduceIte, reduceCtorEq, Nat.reduceEqDiff, Nat.reduceAdd, Nat.reduceMul, Nat.reduceSub, Nat.reduceLeDiff, Nat.reduceLT, Nat.reduceBEq, Int.reduceToNat, Int.reduceEq, Int.reduceLT, Int.reduceLE, Int.reduceAdd, Int.reduceSub, Int.reduceMul, Int.reduceNeg, hw]
    refine ⟨spM X ks kh kb f1 f2 t1 t2 Bd rv al false .ready none H1 e, none, true, ?_, fun _ => ⟨H1, hv', n, rpopL (x :: T), M, K, by rw [hBd], A1, I.skip hdk, hkb1', fun j hj => hkb1.2 j (f1' j hj), .inl ⟨rfl, ?_⟩⟩, fun h => (by cases h)⟩
    · cases u <;> rfl
    · exact (rpop_perm x T).1.length_eq
  | false =>
    have rest := rest hdk
    simp (maxDischargeDepth := 8) only [go_sem, reduceIte, reduceCtorEq, Nat.reduceEqDiff, Nat.reduceAdd, Nat.reduceMul, Nat.reduceSub, Nat.reduceLeDiff, Nat.reduceLT, Nat.reduceBEq, Int.reduceToNat, Int.reduceEq, Int.reduceLT, Int.reduceLE, Int.reduceAdd, Int.reduceSub, Int.reduceMul, Int.reduceNeg, spM, hw, s1, srC, d1, c1, assoc_cell, dk_getD, gm_getD, gm_some]
    cases al with
    | true =>
      simp (maxDischargeDepth := 8) only [go_sem, reduceIte, reduceCtorEq, Nat.reduceEqDiff, Nat.reduceAdd, Nat.reduceMul, Nat.reduceSub, Nat.reduceLeDiff, Nat.reduceLT, Nat.reduceBEq, Int.reduceToNat, Int.reduceEq, Int.reduceLT, Int.reduceLE, Int.reduceAdd, Int.reduceSub, Int.reduceMul, Int.reduceNeg, hw]
      exact rest
    | false =>
      cases hgm : gM M (t1, t2) with
      | none =>
        simp (maxDischargeDepth := 8) only [go_sem, reduceIte, reduceCtorEq, Nat.reduceEqDiff, Nat.reduceAdd, Nat.reduceMul, Nat.reduceSub, Nat.reduceLeDiff, Nat.reduceLT, Nat.reduceBEq, Int.reduceToNat, Int.reduceEq, Int.reduceLT, Int.reduceLE, Int.reduceAdd, Int.reduceSub, Int.reduceMul, Int.reduceNeg, hw, Option.isSome_none]
        exact rest
      | some best =>
        cases hdt : dK K (t1, t2) with
        | false =>
          simp (maxDischargeDepth := 8) only [go_sem, reduceIte, reduceCtorEq, Nat.reduceEqDiff, Nat.reduceAdd, Nat.reduceMul, Nat.reduceSub, Nat.reduceLeDiff, Nat.reduceLT, Nat.reduceBEq, Int.reduceToNat, Int.reduceEq, Int.reduceLT, Int.reduceLE, Int.reduceAdd, Int.reduceSub, Int.reduceMul, Int.reduceNeg, hw, Option.isSome_some, s1, srC, d1, assoc_cell, dk_getD, hdt]
          exact rest
        | true =>
          simp (maxDischargeDepth := 8) only [go_sem, reduceIte, reduceCtorEq, Nat.reduceEqDiff, Nat.reduceAdd, Nat.reduceMul, Nat.reduceSub, Nat.reduceLeDiff, Nat.reduceLT, Nat.reduceBEq, Int.reduceToNat, Int.reduceEq, Int.reduceLT, Int.reduceLE, Int.reduceAdd, Int.reduceSub, Int.reduceMul, Int.reduceNeg, hw, Option.isSome_some, s1, srC, d1, assoc_cell, dk_getD, hdt]
          have hmin := I.min hN hd hh
          have hrx := I.re x List.mem_cons_self
          have b1 := hh x.1 x.2.1
          have b2 := I.kl
          have wx : IntKind.wrap .i64 (x.2.2.1 + x.2.2.2.1) = x.2.2.1 + x.2.2.2.1 := wrap_small (by omega) (by omega)
          cases hgt : decide (x.2.2.1 + x.2.2.2.1 > best) with
          | false =>
            simp (maxDischargeDepth := 8) only [go_sem, reduceIte, reduceCtorEq, Nat.reduceEqDiff, Nat.reduceAdd, Nat.reduceMul, Nat.reduceSub, Nat.reduceLeDiff, Nat.reduceLT, Nat.reduceBEq, Int.reduceToNat, Int.reduceEq, Int.reduceLT, Int.reduceLE, Int.reduceAdd, Int.reduceSub, Int.reduceMul, Int.reduceNeg, hw, wx, hgt, Option.getD_some]
            exact rest
          | true =>
            simp (maxDischargeDepth := 8) only [go_sem, reduceIte, reduceCtorEq, Nat.reduceEqDiff, Nat.reduceAdd, Nat.reduceMul, Nat.reduceSub, Nat.reduceLeDiff, Nat.reduceLT, Nat.reduceBEq, Int.reduceToNat, Int.reduceEq, Int.reduceLT, Int.reduceLE, Int.reduceAdd, Int.reduceSub, Int.reduceMul, Int.reduceNeg, hw, wx, hgt, Option.getD_some]
            refine ⟨spM X ks kh kb f1 f2 t1 t2 Bd rv false true .done (some .ret) (H1.take H1.length) e, none, false, by rfl, fun h => (by cases h), fun _ => ⟨_, hv', n, rpopL (x :: T), true, _, rfl, ?_, .inl ⟨rfl, rfl, best, hgm, ?_⟩⟩⟩
            · rw [List.take_length]; exact A1
            · have hg1 := of_decide_eq_true hgt
              refine I.iv.fin (fun y e h1 _ => h1) hcs fun y w hE => ⟨best, rfl, ?_⟩
              have := hmin.2.2 y w hE
              omega
theorem r_route_search_spread {X : Mem} {ks : Nat} {p : WP} {W : Wd} (hW : WorldOwn X.heap p W) (hg : W.Good) (hpk : ks ∉ p.fp) {cl sz ax ay aw ah : Int} {cv dv : SV} (hs : hget X.heap ks 0 = some (.cells true (srC p cl sz ax ay aw ah cv dv))) (hw : X.Wf) (hhb : X.hb ≤ ks) {rv : SV} (hrv : FnV X.dep rv) {h : Int → Int → Int}
    (hr : ∀ Y : Mem, Keep [ks] X.heap Y.heap → Low Y X → Y.Wf → ∀ x y, RV tb rv [.agg [.int .i64 x, .int .i64 y]] Y = some (.int .i64 (h x y), Y)) {f1 f2 : Int} (t1 t2 B : Int) (al : Bool) {N : Nat} (hN : N ≤ 20000) (hh : ∀ a b, 0 ≤ h a b ∧ h a b ≤ 1000000000) (hcs : ∀ c d, okS W cl sz (fun c => hasB ax ay aw ah c.1 c.2) c d = true → h c.1 c.2 ≤ costP d + h (mvC c d).1 (mvC c d).2)
    (hBr : -9223372036854775808 ≤ B ∧ B ≤ 9223372036854775807) (h0 : hasB ax ay aw ah f1 f2 = true ∧ W.stands cl sz f1 f2 = true) (hcnt : ∀ l : List Cl, l.Nodup → (∀ c ∈ l, hasB ax ay aw ah c.1 c.2 = true ∧ W.stands cl sz c.1 c.2 = true) → l.length ≤ N) :
    ∃ b H' u M K, RF tb f_route_search_spread [.ptr (.hp ks 0) 0, .agg [.int .i64 f1, .int .i64 f2], rv, .agg [.int .i64 t1, .int .i64 t2], .bool al, .int .i64 B] X = some (.bool b, (X.hp H').es (escMin X.esc u)) ∧ Keep [ks] X.heap H' ∧ (∃ kc kd, X.heap.length ≤ kc ∧ X.heap.length ≤ kd ∧ hget H' ks 0 = some (.cells true (srC p cl sz ax ay aw ah (.map (.hp kc 0)) (.map (.hp kd 0)))) ∧ hget H' kc 0 = some (.map (alV cellW intV M)) ∧ hget H' kd 0 = some (.map (alV cellW boolV K))) ∧ (∀ c v, gM M c = some v → v ≤ 14 * (N : Int)) ∧
      ((b = true ∧ ∃ Bo : Option Int, (∀ best, Bo = some best → al = false ∧ gM M (t1, t2) = some best) ∧ SFin (okS W cl sz (fun c => hasB ax ay aw ah c.1 c.2)) (f1, f2) (gM M) (dK K) (fun c => h c.1 c.2) Bo) ∨ (b = false ∧ B < N)) := by
  rw [RF_go t_route_search_spread _ _ rfl, push_hp]
  generalize hH : X.heap = H at *
  have hHl : X.hl = H.length := by rw [← hH]; rfl
  simp (maxDischargeDepth := 8) only [go_sem, reduceIte, reduceCtorEq, Nat.reduceEqDiff, Nat.reduceAdd, Nat.reduceMul, Nat.reduceSub, Nat.reduceLeDiff, Nat.reduceLT, Nat.reduceBEq, Int.reduceToNat, Int.reduceEq, Int.reduceLT, Int.reduceLE, Int.reduceAdd, Int.reduceSub, Int.reduceMul, Int.reduceNeg, s_route_search_spread, hw, hH, hrv.l, hrv.c, hrv.k, hrv.o, r_rheap_New]
  obtain ⟨H1, hH1⟩ : ∃ H1, H ++ [(0, SBk.cells true [.fn f_route_ahead [] [], .nils, .int .i64 0])] = H1 := ⟨_, rfl⟩
  have o1 : RHeapOwn H1 H.length .nils 0 [] := by rw [← hH1]; exact rheap_new H
  have k1 : Keep [] H H1 := by rw [← hH1]; exact Keep.app _ _ _
  have l1 : H1.length = H.length + 1 := by rw [← hH1, List.length_append]; rfl
  rw [hH1]
  have ksl := hget_lt hs
  have hs1 := k1.get hs (by simp)
  have hb1 : X.hb ≤ H1.length := by omega
  have sl : ∀ (a b : Nat × SBk), (H1 ++ [a]).set H1.length b = H1 ++ [b] := fun a b => by rw [List.set_append_right _ _ (Nat.le_refl _), Nat.sub_self]; rfl
  obtain ⟨H2, hH2⟩ : ∃ H2, H1 ++ [(0, SBk.map [(.agg [.int .i64 f1, .int .i64 f2], .int .i64 0)])] = H2 := ⟨_, rfl⟩
  have k2 : Keep [] H1 H2 := by rw [← hH2]; exact Keep.app _ _ _
  have l2 : H2.length = H1.length + 1 := by rw [← hH2, List.length_append]; rfl
  have hs2 := k2.get hs1 (by simp)
  have hs1' : hget (H1 ++ [(0, SBk.map [])]) ks 0 = some (.cells true (srC p cl sz ax ay aw ah cv dv)) := (show Keep [] H1 _ from Keep.app _ _ _).get hs1 (by simp)
  simp (maxDischargeDepth := 8) only [go_sem, reduceIte, reduceCtorEq, Nat.reduceEqDiff, Nat.reduceAdd, Nat.reduceMul, Nat.reduceSub, Nat.reduceLeDiff, Nat.reduceLT, Nat.reduceBEq, Int.reduceToNat, Int.reduceEq, Int.reduceLT, Int.reduceLE, Int.reduceAdd, Int.reduceSub, Int.reduceMul, Int.reduceNeg, hw, hb1, sl, hs2, hH2, hs1', hs1, hhb, srC, show ¬ (H1.length + 1 ≤ ks) by omega]
  obtain ⟨H3, hH3⟩ : ∃ H3, H2.set ks (0, SBk.cells true [.ptr (.hp p.k 0) 0, .int .i64 cl, .int .i64 sz, .int .i64 ax, .int .i64 ay, .int .i64 aw, .int .i64 ah, .map (.hp H1.length 0), dv]) = H3 := ⟨_, rfl⟩
  have ksl2 : ks < H2.length := by omega
  have k3 : Keep [ks] H2 H3 := by rw [← hH3]; exact Keep.set (by simp) _ _
  have l3 : H3.length = H2.length := by rw [← hH3, List.length_set]
  have hs3 : hget H3 ks 0 = some (.cells true (srC p cl sz ax ay aw ah (.map (.hp H1.length 0)) dv)) := by rw [← hH3, hget_set_eq ksl2, if_pos rfl]
  have hs3' : hget (H3 ++ [(0, SBk.map [])]) ks 0 = some (.cells true (srC p cl sz ax ay aw ah (.map (.hp H1.length 0)) dv)) := (show Keep [] H3 _ from Keep.app _ _ _).get hs3 (by simp)
  rw [hH3]
  simp (maxDischargeDepth := 8) only [go_sem, reduceIte, reduceCtorEq, Nat.reduceEqDiff, Nat.reduceAdd, Nat.reduceMul, Nat.reduceSub, Nat.reduceLeDiff, Nat.reduceLT, Nat.reduceBEq, Int.reduceToNat, Int.reduceEq, Int.reduceLT, Int.reduceLE, Int.reduceAdd, Int.reduceSub, Int.reduceMul, Int.reduceNeg, hw, hs3', hs3, hhb, srC, show ¬ (H3.length + 1 ≤ ks) by omega, show escMin (some ks) (some ks) = some ks from by simp [escMin]]
  obtain ⟨H4, hH4⟩ : ∃ H4, (H3 ++ [(0, SBk.map [])]).set ks (0, SBk.cells true [.ptr (.hp p.k 0) 0, .int .i64 cl, .int .i64 sz, .int .i64 ax, .int .i64 ay, .int .i64 aw, .int .i64 ah, .map (.hp H1.length 0), .map (.hp H3.length 0)]) = H4 := ⟨_, rfl⟩
  have k4 : Keep [ks] H3 H4 := by rw [← hH4]; exact (Keep.weak (T := [ks]) (show Keep [] H3 _ from Keep.app _ _ _) (by simp)).trans (Keep.set (by simp) _ _)
  have l4 : H4.length = H3.length + 1 := by rw [← hH4, List.length_set, List.length_append]; rfl
  have hs4 : hget H4 ks 0 = some (.cells true (srC p cl sz ax ay aw ah (.map (.hp H1.length 0)) (.map (.hp H3.length 0)))) := by rw [← hH4, hget_set_eq (by rw [List.length_append]; omega), if_pos rfl]
  have hc4 : hget H4 H1.length 0 = some (.map (alV cellW intV [((f1, f2), 0)])) := k4.get (k3.get (by rw [← hH2]; exact hget_new0 0 _) (by simp; omega)) (by simp; omega)
  have hd4 : hget H4 H3.length 0 = some (.map (alV cellW boolV [])) := by rw [← hH4, hget_set_ne (by omega)]; exact hget_new0 0 _
  have k04 : Keep [ks] H H4 := (((Keep.weak (T := [ks]) k1 (by simp)).trans (Keep.weak (T := [ks]) k2 (by simp))).trans k3).trans k4
  have o4 : RHeapOwn H4 H.length .nils 0 [] := ((o1.keep k2 (by simp) (by simp)).keep k3 (by simp; omega) (by simp [slFp])).keep k4 (by simp; omega) (by simp [slFp])
  rw [hH4, hr _ k04 (low_shut (low_fr (low_hp X _) _ _)) (by simp (maxDischargeDepth := 8) only [go_sem, reduceIte, reduceCtorEq, Nat.reduceEqDiff, Nat.reduceAdd, Nat.reduceMul, Nat.reduceSub, Nat.reduceLeDiff, Nat.reduceLT, Nat.reduceBEq, Int.reduceToNat, Int.reduceEq, Int.reduceLT, Int.reduceLE, Int.reduceAdd, Int.reduceSub, Int.reduceMul, Int.reduceNeg, hw])]
  simp (maxDischargeDepth := 8) only [go_sem, reduceIte, reduceCtorEq, Nat.reduceEqDiff, Nat.reduceAdd, Nat.reduceMul, Nat.reduceSub, Nat.reduceLeDiff, Nat.reduceLT, Nat.reduceBEq, Int.reduceToNat, Int.reduceEq, Int.reduceLT, Int.reduceLE, Int.reduceAdd, Int.reduceSub, Int.reduceMul, Int.reduceNeg, hw]
  generalize hz : RF tb f_heap_Heap_route_open_Push _ _ = z
  obtain ⟨hv, H5, u5, rfl, o5, k5, f5⟩ := rpush_of hz o4 (by simp) (by simp) (by show X.hb ≤ H.length; omega) (by simp [slFp]) (by simp (maxDischargeDepth := 8) only [go_sem, reduceIte, reduceCtorEq, Nat.reduceEqDiff, Nat.reduceAdd, Nat.reduceMul, Nat.reduceSub, Nat.reduceLeDiff, Nat.reduceLT, Nat.reduceBEq, Int.reduceToNat, Int.reduceEq, Int.reduceLT, Int.reduceLE, Int.reduceAdd, Int.reduceSub, Int.reduceMul, Int.reduceNeg, hw])
  change Keep _ H4 H5 at k5
  change ∀ j ∈ slFp hv, _ ∨ H4.length ≤ j at f5
  have l5 := k5.1
  have hB : SpB H ks H.length H1.length H3.length := ⟨ksl, rfl, ⟨by omega, by omega⟩⟩
  have hf5 : ∀ j ∈ slFp hv, H.length ≤ j ∧ j ≠ H1.length ∧ j ≠ H3.length := fun j hj => by
    rcases f5 j hj with h' | h'
    · simp [slFp] at h'
    · omega
  have A5 : SpAt H ks H.length H1.length H3.length (srC p cl sz ax ay aw ah (.map (.hp H1.length 0)) (.map (.hp H3.length 0))) H5 hv 1 (upH rlt 1 0 [(f1, f2, 0, h f1 f2, 0)]) [((f1, f2), 0)] [] := by
    refine ⟨o5, (k04.trans' k5 (fun m hm hl => ?_)), k5.get hs4 ?_, k5.get hc4 ?_, k5.get hd4 ?_, hf5⟩
    all_goals simp [slFp] at *; omega
  simp (maxDischargeDepth := 8) only [go_sem, reduceIte, reduceCtorEq, Nat.reduceEqDiff, Nat.reduceAdd, Nat.reduceMul, Nat.reduceSub, Nat.reduceLeDiff, Nat.reduceLT, Nat.reduceBEq, Int.reduceToNat, Int.reduceEq, Int.reduceLT, Int.reduceLE, Int.reduceAdd, Int.reduceSub, Int.reduceMul, Int.reduceNeg, hw, r_rheap_Drain]
  obtain ⟨HD, hHD⟩ : ∃ HD, H5 ++ [(0, SBk.cells true [.ptr (.hp H.length 0) 0])] = HD := ⟨_, rfl⟩
  have kD : Keep [] H5 HD := by rw [← hHD]; exact Keep.app _ _ _
  have lD : HD.length = H5.length + 1 := by rw [← hHD, List.length_append]; rfl
  have bD : hget HD H5.length 0 = some (.cells true [.ptr (.hp H.length 0) 0]) := by rw [← hHD]; exact hget_new0 0 _
  rw [hHD]
  have hdr := r_rheap_Drain_1 [] (escMin (some ks) u5) (D := X.dep) (i := 8) (kb := H5.length) (k := H.length) (α := Hp × SV × Int × List Rt × List (Cl × Int) × List (Cl × Bool)) (fun q => spM X ks H.length H5.length f1 f2 t1 t2 (IntKind.wrap .i64 (B - (q.2.2.2.2.2.length : Int))) rv al false .ready none q.1 (escMin (some ks) u5)) (fun q => q.2.1) (fun q => q.2.2.1) (fun q => q.2.2.2.1)
    (fun q _ => SpAt H ks H.length H1.length H3.length (srC p cl sz ax ay aw ah (.map (.hp H1.length 0)) (.map (.hp H3.length 0))) q.1 q.2.1 q.2.2.1 q.2.2.2.1 q.2.2.2.2.1 q.2.2.2.2.2 ∧ SpI (okS W cl sz (fun c => hasB ax ay aw ah c.1 c.2)) (f1, f2) h N 0 q.2.2.1 q.2.2.2.1 q.2.2.2.2.1 q.2.2.2.2.2 (fun y _ => dK q.2.2.2.2.2 y = true) ∧ hget q.1 H5.length 0 = some (.cells true [.ptr (.hp H.length 0) 0]) ∧ (∀ j ∈ slFp q.2.1, j ≠ H5.length)) (fun q => (N - q.2.2.2.2.2.length) * (8 * N + 3) + q.2.2.2.1.length)
    (fun m _ => ∃ (q : Hp × SV × Int × List Rt × List (Cl × Int) × List (Cl × Bool)) (st : LoopState) (pd : Option Jump) (res : Bool) (Bd : Int), m = spM X ks H.length H5.length f1 f2 t1 t2 Bd rv al res st pd q.1 (escMin (some ks) u5) ∧ SpAt H ks H.length H1.length H3.length (srC p cl sz ax ay aw ah (.map (.hp H1.length 0)) (.map (.hp H3.length 0))) q.1 q.2.1 q.2.2.1 q.2.2.2.1 q.2.2.2.2.1 q.2.2.2.2.2 ∧ (∀ c v, gM q.2.2.2.2.1 c = some v → v ≤ 14 * (N : Int)) ∧
      ((st = .ready ∧ pd = none ∧ SFin (okS W cl sz (fun c => hasB ax ay aw ah c.1 c.2)) (f1, f2) (gM q.2.2.2.2.1) (dK q.2.2.2.2.2) (fun c => h c.1 c.2) none) ∨ (st = .done ∧ pd = some .ret ∧ ((res = true ∧ al = false ∧ ∃ best, gM q.2.2.2.2.1 (t1, t2) = some best ∧ SFin (okS W cl sz (fun c => hasB ax ay aw ah c.1 c.2)) (f1, f2) (gM q.2.2.2.2.1) (dK q.2.2.2.2.2) (fun c => h c.1 c.2) (some best)) ∨ (res = false ∧ B < N)))))
    ?_ ?_ ?_ (HD, hv, 1, upH rlt 1 0 [(f1, f2, 0, h f1 f2, 0)], [((f1, f2), 0)], []) ⟨?_, spi_new _ _ _ _ _ (by simp [dK, alGet]), bD, fun j hj => ?_⟩
  · obtain ⟨m', u, hdr, ⟨Hd, wv, nd, Ld, Md, Kd⟩, st, pd, res, Bd, rfl, Ad, hmb, hst⟩ := hdr
    dsimp only at Ad hmb hst
    simp only [spM, frs_nil_fr] at hdr
    simp only [List.length_nil, Int.ofNat_zero, Int.sub_zero, wrap_small hBr.1 hBr.2] at hdr
    rw [hdr]
    clear hdr
    obtain ⟨e9, he9, hk9⟩ : ∃ e9, escMin (escMin (some ks) u5) u = some e9 ∧ e9 ≤ ks := by
      cases u5 <;> cases u <;> simp only [escMin] <;> exact ⟨_, rfl, by omega⟩
    obtain ⟨Hf, hHf⟩ : ∃ Hf, (if escOk HD.length u = true then Hd.take HD.length else Hd) = Hf := ⟨_, rfl⟩
    have hdl := Ad.kk.1
    have hcg : ∀ i, i < HD.length → Hf[i]? = Hd[i]? := fun i hi => by
      rw [← hHf]
      split
      · rw [List.getElem?_take, if_pos hi]
      · rfl
    have hHl2 : H.length ≤ Hf.length := by
      rw [← hHf]
      split
      · rw [List.length_take]; omega
      · omega
    have fin9 : Keep [ks] H Hf ∧ (∃ kc kd, H.length ≤ kc ∧ H.length ≤ kd ∧ hget Hf ks 0 = some (.cells true (srC p cl sz ax ay aw ah (.map (.hp kc 0)) (.map (.hp kd 0)))) ∧ hget Hf kc 0 = some (.map (alV cellW intV Md)) ∧ hget Hf kd 0 = some (.map (alV cellW boolV Kd))) :=
      ⟨⟨hHl2, fun i hi hn => by rw [hcg i (by omega), Ad.kk.2 i hi hn]⟩, H1.length, H3.length, by omega, by omega, by rw [hget_congr (hcg ks (by omega))]; exact Ad.s, by rw [hget_congr (hcg _ (by omega))]; exact Ad.c, by rw [hget_congr (hcg _ (by omega))]; exact Ad.d⟩
    have hf9 : escOk X.hl (some e9) = false := escOk_some (by omega)
    rcases hst with ⟨rfl, rfl, hS⟩ | ⟨rfl, rfl, hS⟩
    · simp (maxDischargeDepth := 8) only [go_sem, reduceIte, reduceCtorEq, Nat.reduceEqDiff, Nat.reduceAdd, Nat.reduceMul, Nat.reduceSub, Nat.reduceLeDiff, Nat.reduceLT, Nat.reduceBEq, Int.reduceToNat, Int.reduceEq, Int.reduceLT, Int.reduceLE, Int.reduceAdd, Int.reduceSub, Int.reduceMul, Int.reduceNeg, hw, he9, hHf]
      rw [hf9]
      exact ⟨_, Hf, some e9, Md, Kd, rfl, fin9.1, fin9.2, hmb, .inl ⟨rfl, none, fun _ h => (by cases h), hS⟩⟩
    · simp (maxDischargeDepth := 8) only [go_sem, reduceIte, reduceCtorEq, Nat.reduceEqDiff, Nat.reduceAdd, Nat.reduceMul, Nat.reduceSub, Nat.reduceLeDiff, Nat.reduceLT, Nat.reduceBEq, Int.reduceToNat, Int.reduceEq, Int.reduceLT, Int.reduceLE, Int.reduceAdd, Int.reduceSub, Int.reduceMul, Int.reduceNeg, hw, he9, hHf]
      rw [hf9]
      refine ⟨_, Hf, some e9, Md, Kd, rfl, fin9.1, fin9.2, hmb, ?_⟩
      rcases hS with ⟨r1, r2, best, r3, r4⟩ | ⟨r1, r2⟩
      · exact .inl ⟨r1, some best, fun b hb => by cases hb; exact ⟨r2, r3⟩, r4⟩
      · exact .inr ⟨r1, r2⟩
  · rintro ⟨Hd, wv, nd, Ld, Md, Kd⟩ u ⟨Ad, Id, bd, fd⟩
    dsimp only at Ad Id bd fd ⊢
    have := Id.nl
    have := Id.kl
    refine ⟨?_, fr_wf (hp_wf hw) _ _, ?_, fun j hj => ?_, bd, Ad.o, by omega⟩
    · show X.dep < ((X.hp Hd).fr _ _).dep; rw [fr_dep]; exact Nat.lt_succ_self _
    · show X.hb ≤ H.length; omega
    · have := (Ad.f j hj).1; show X.hb ≤ j; omega
  · rintro ⟨Hd, wv, nd, Ld, Md, Kd⟩ u ⟨Ad, Id, bd, fd⟩ hL
    dsimp only at Ad Id bd fd hL ⊢
    subst hL
    refine ⟨(Hd, wv, nd, [], Md, Kd), _, _, _, _, rfl, Ad, fun c v h => Int.le_trans (Id.mb c v h) (by have := Id.kl; omega), .inl ⟨rfl, rfl, ?_⟩⟩
    refine Id.iv.fin (fun y e h1 _ => h1) hcs fun y w hE => ?_
    obtain ⟨_, hE⟩ := hE
    cases hE
  · rintro ⟨Hd, wv, nd, Ld, Md, Kd⟩ u x T ⟨Ad, Id, bd, fd⟩ hL hv' H1' u1 hO k1' f1' g
    dsimp only at Ad Id bd fd hL k1' f1' ⊢
    subst hL
    change Keep _ Hd H1' at k1'
    obtain ⟨m', d, go, e1, P1, P2⟩ := spread_round (kb := H5.length) (B := B) (T := T) hH hW hg hpk hw hhb hB hrv hr f1 f2 t1 t2 al (escMin (some ks) u5) hN hh hcs Ad Id bd ⟨by omega, fd⟩ (escMin u u1) hO k1' f1' g rfl hBr h0 hcnt
    refine ⟨m', d, go, e1, fun hgo => ?_, fun hgo => ?_⟩
    · obtain ⟨Hr, hv2, n2, L2, res, Bd2, r1, r2, r3⟩ := P2 hgo
      exact ⟨(Hr, hv2, n2, L2, Md, Kd), _, _, res, Bd2, r1, r2, fun c v h => Int.le_trans (Id.mb c v h) (by have := Id.kl; dsimp only at *; omega), .inr ⟨rfl, rfl, r3⟩⟩
    · obtain ⟨Hr, hv2, n2, L2, M2, K2, r1, r2, r3, r4, r5, r6⟩ := P1 hgo
      refine ⟨(Hr, hv2, n2, L2, M2, K2), r1, ⟨r2, r3, r4, r5⟩, ?_⟩
      dsimp only
      have c1 := r3.nl
      have c2 := r3.kl
      have c3 := Id.kl
      rcases r6 with ⟨g1, g2⟩ | g1
      · rw [g1, g2, List.length_cons]; omega
      · obtain ⟨q, hq⟩ : ∃ q, N - K2.length = q := ⟨_, rfl⟩
        rw [hq, show N - Kd.length = q + 1 by omega, Nat.add_mul, Nat.one_mul, List.length_cons]
        omega
  · exact ⟨A5.o.keep kD (by simp) (by simp), A5.kk.trans' kD (by simp), kD.get A5.s (by simp), kD.get A5.c (by simp), kD.get A5.d (by simp), A5.f⟩
  · have := A5.o.ow.fp j hj
    omega
theorem wrapu_small {x : Int} (h1 : 0 ≤ x) (h2 : x ≤ 18446744073709551615) : IntKind.wrap .u64 x = x := by
  simp only [IntKind.wrap, IntKind.bits, IntKind.signed]
  simp
  omega
theorem and32 {x : Int} (h1 : 0 ≤ x) (h2 : x < 4294967296) : ibits .and .u64 x 4294967295 = some x := by
  obtain ⟨n, rfl⟩ := Int.eq_ofNat_of_zero_le h1
  have e1 : (BitVec.ofInt (IntKind.bits .u64) (n : Int)).toNat = n := by
    simp only [IntKind.bits, BitVec.toNat_ofInt]
    omega
  have e2 : (BitVec.ofInt (IntKind.bits .u64) 4294967295).toNat = 4294967295 := by decide
  simp only [ibits]
  rw [BitVec.toNat_and, e1, e2]
  have e3 : n &&& 4294967295 = n % 4294967296 := Nat.and_two_pow_sub_one_eq_mod n 32
  rw [e3, Nat.mod_eq_of_lt (by omega)]
  exact congrArg some (wrapu_small (by omega) (by omega))
theorem shr32 {x : Int} (h1 : 0 ≤ x) (h2 : x < 4294967296) : Int.fdiv x (2 ^ min 32 64) = 0 := by
  have e : (2 ^ min 32 64 : Int) = 4294967296 := by decide
  rw [e, Int.fdiv_eq_ediv_of_nonneg _ (by omega)]
  omega
theorem r_math_bits_Mul64 (m : Mem) {x y : Int} (hx : 0 ≤ x ∧ x < 4194304) (hy : 0 ≤ y ∧ y < 1024) : RF tb f_math_bits_Mul64 [.int .u64 x, .int .u64 y] m = some (.tup [.int .u64 0, .int .u64 (x * y)], m) := by
  have h0 : 0 ≤ x * y := Int.mul_nonneg hx.1 hy.1
  have h1 : x * y ≤ 4194303 * 1023 := Int.mul_le_mul (by omega) (by omega) (by omega) (by omega)
  rw [RF_go t_math_bits_Mul64 _ _ rfl]
  have w0 : IntKind.wrap .u64 0 = 0 := rfl
  simp (maxDischargeDepth := 8) only [go_sem, reduceIte, reduceCtorEq, Nat.reduceEqDiff, Nat.reduceAdd, Nat.reduceMul, Nat.reduceSub, Nat.reduceLeDiff, Nat.reduceLT, Nat.reduceBEq, Int.reduceToNat, Int.reduceEq, Int.reduceLT, Int.reduceLE, Int.reduceAdd, Int.reduceSub, Int.reduceMul, Int.reduceNeg, s_math_bits_Mul64, and32 hx.1 (show x < 4294967296 by omega), and32 hy.1 (show y < 4294967296 by omega), shr32 hx.1 (show x < 4294967296 by omega), shr32 hy.1 (show y < 4294967296 by omega), wrapu_small h0 (by omega), shr32 h0 (show x * y < 4294967296 by omega),
    Int.zero_mul, Int.mul_zero, Int.zero_add, Int.add_zero, w0, and32 (x := 0) (by omega) (by omega), shr32 (x := 0) (by omega) (by omega)]
theorem r_fixed_amount (m : Mem) (a : Int) (h : -4611686018427387904 ≤ a ∧ a ≤ 4611686018427387904) : RF tb f_fixed_amount [.int .i64 a] m = some (.int .u64 (mxI a (-a)), m) := by
  rw [RF_go t_fixed_amount _ _ rfl]
  simp (maxDischargeDepth := 8) only [go_sem, reduceIte, reduceCtorEq, Nat.reduceEqDiff, Nat.reduceAdd, Nat.reduceMul, Nat.reduceSub, Nat.reduceLeDiff, Nat.reduceLT, Nat.reduceBEq, Int.reduceToNat, Int.reduceEq, Int.reduceLT, Int.reduceLE, Int.reduceAdd, Int.reduceSub, Int.reduceMul, Int.reduceNeg, s_fixed_amount]
  repeat' ((first | rw [KG_bool] | rw [KC_bool]); split <;> rename_i h <;> (try simp only [Bool.not_eq_true, Bool.not_not, Bool.not_eq_eq_eq_not, Bool.not_true, Bool.not_false] at h) <;> simp (maxDischargeDepth := 8) only [go_sem, reduceIte, reduceCtorEq, Nat.reduceEqDiff, Nat.reduceAdd, Nat.reduceMul, Nat.reduceSub, Nat.reduceLeDiff, Nat.reduceLT, Nat.reduceBEq, Int.reduceToNat, Int.reduceEq, Int.reduceLT, Int.reduceLE, Int.reduceAdd, Int.reduceSub, Int.reduceMul, Int.reduceNeg, h])
  all_goals simp only [decide_eq_true_eq, decide_eq_false_iff_not] at *
  all_goals simp only [mxI, IntKind.wrap, IntKind.bits, IntKind.signed]
  all_goals simp
  all_goals (repeat' split) <;> omega
theorem r_fixed_signed (m : Mem) (n : Int) (h : 0 ≤ n ∧ n < 4611686018427387904) : RF tb f_fixed_signed [.int .u64 n, .bool false] m = some (.tup [.int .i64 n, .bool true], m) := by
  rw [RF_go t_fixed_signed _ _ rfl]
  simp (maxDischargeDepth := 8) only [go_sem, reduceIte, reduceCtorEq, Nat.reduceEqDiff, Nat.reduceAdd, Nat.reduceMul, Nat.reduceSub, Nat.reduceLeDiff, Nat.reduceLT, Nat.reduceBEq, Int.reduceToNat, Int.reduceEq, Int.reduceLT, Int.reduceLE, Int.reduceAdd, Int.reduceSub, Int.reduceMul, Int.reduceNeg, s_fixed_signed, show decide (n < 9223372036854775808) = true from decide_eq_true (by omega), wrap_small (x := n) (by omega) (by omega)]
/-- The octile distance of two differences. -/
def octI (x y : Int) : Int := if x < y then 14 * x + 10 * (y - x) else 14 * y + 10 * (x - y)
theorem oct_in {x y : Int} (hx : 0 ≤ x ∧ x < 4194304) (hy : 0 ≤ y ∧ y < 4194304) : 0 ≤ octI x y ∧ octI x y ≤ 104857600 := by unfold octI; split <;> omega
theorem r_fixed_Octile (m : Mem) (a b : Int) (ha : -4194303 ≤ a ∧ a ≤ 4194303) (hb : -4194303 ≤ b ∧ b ≤ 4194303) : RF tb f_fixed_Octile [.int .i64 a, .int .i64 b] m = some (.tup [.int .i64 (octI (mxI a (-a)) (mxI b (-b))), .bool true], m) := by
  have hx : 0 ≤ mxI a (-a) ∧ mxI a (-a) < 4194304 := by unfold mxI; split <;> omega
  have hy : 0 ≤ mxI b (-b) ∧ mxI b (-b) < 4194304 := by unfold mxI; split <;> omega
  rw [RF_go t_fixed_Octile _ _ rfl]
  simp (maxDischargeDepth := 8) only [go_sem, reduceIte, reduceCtorEq, Nat.reduceEqDiff, Nat.reduceAdd, Nat.reduceMul, Nat.reduceSub, Nat.reduceLeDiff, Nat.reduceLT, Nat.reduceBEq, Int.reduceToNat, Int.reduceEq, Int.reduceLT, Int.reduceLE, Int.reduceAdd, Int.reduceSub, Int.reduceMul, Int.reduceNeg, s_fixed_Octile, fun m => r_fixed_amount m a (by omega), fun m => r_fixed_amount m b (by omega)]
  generalize mxI a (-a) = p at *
  generalize mxI b (-b) = q at *
  have key : ∀ p q : Int, 0 ≤ q → q ≤ p → p < 4194304 → (∀ m, RF tb f_math_bits_Mul64 [.int .u64 q, .int .u64 14] m = some (.tup [.int .u64 0, .int .u64 (q * 14)], m)) ∧ (∀ m, RF tb f_math_bits_Mul64 [.int .u64 (IntKind.wrap .u64 (p - q)), .int .u64 10] m = some (.tup [.int .u64 0, .int .u64 ((p - q) * 10)], m)) ∧
      add64v (.int .u64 (q * 14)) (.int .u64 ((p - q) * 10)) (.int .u64 0) = some (.tup [.int .u64 (q * 14 + (p - q) * 10), .int .u64 0]) ∧ (∀ m, RF tb f_fixed_signed [.int .u64 (q * 14 + (p - q) * 10), .bool false] m = some (.tup [.int .i64 (q * 14 + (p - q) * 10), .bool true], m)) := by
    intro p q h1 h2 h3
    refine ⟨fun m => r_math_bits_Mul64 m (by omega) (by omega), fun m => ?_, ?_, fun m => r_fixed_signed m _ (by omega)⟩
    · rw [wrapu_small (by omega) (by omega)]
      exact r_math_bits_Mul64 m (by omega) (by omega)
    · simp only [add64v]
      rw [if_pos (by omega)]
      have e1 : (q * 14 + (p - q) * 10 + 0) % 18446744073709551616 = q * 14 + (p - q) * 10 := by omega
      have e2 : (q * 14 + (p - q) * 10 + 0) / 18446744073709551616 = 0 := by omega
      rw [e1, e2]
  by_cases hlt : p < q
  · obtain ⟨k1, k2, k3, k4⟩ := key q p hx.1 (by omega) hy.2
    have e : octI p q = p * 14 + (q - p) * 10 := by unfold octI; rw [if_pos hlt]; omega
    rw [e]
    simp (maxDischargeDepth := 8) only [go_sem, reduceIte, reduceCtorEq, Nat.reduceEqDiff, Nat.reduceAdd, Nat.reduceMul, Nat.reduceSub, Nat.reduceLeDiff, Nat.reduceLT, Nat.reduceBEq, Int.reduceToNat, Int.reduceEq, Int.reduceLT, Int.reduceLE, Int.reduceAdd, Int.reduceSub, Int.reduceMul, Int.reduceNeg, decide_eq_true hlt, k1, k2, k3, k4]
  · obtain ⟨k1, k2, k3, k4⟩ := key p q hy.1 (by omega) hx.2
    have e : octI p q = q * 14 + (p - q) * 10 := by unfold octI; rw [if_neg hlt]; omega
    rw [e]
    simp (maxDischargeDepth := 8) only [go_sem, reduceIte, reduceCtorEq, Nat.reduceEqDiff, Nat.reduceAdd, Nat.reduceMul, Nat.reduceSub, Nat.reduceLeDiff, Nat.reduceLT, Nat.reduceBEq, Int.reduceToNat, Int.reduceEq, Int.reduceLT, Int.reduceLE, Int.reduceAdd, Int.reduceSub, Int.reduceMul, Int.reduceNeg, decide_eq_false hlt, k1, k2, k3, k4]
def absI (a : Int) : Int := mxI a (-a)
theorem absI_eq (a : Int) : absI a = if a < 0 then -a else a := by unfold absI mxI; split <;> split <;> omega
def octC (x y a b : Int) : Int := iB (nearC x y && nearC a b) (octI (absI (x - a)) (absI (y - b)))
theorem r_cell_Octile (m : Mem) (hm : m.Wf) (x y a b : Int) : RF tb f_cell_Octile [.agg [.int .i64 x, .int .i64 y], .agg [.int .i64 a, .int .i64 b]] m = some (.int .i64 (octC x y a b), m) := by
  rw [RF_go t_cell_Octile _ _ rfl]
  simp (maxDischargeDepth := 8) only [go_sem, reduceIte, reduceCtorEq, Nat.reduceEqDiff, Nat.reduceAdd, Nat.reduceMul, Nat.reduceSub, Nat.reduceLeDiff, Nat.reduceLT, Nat.reduceBEq, Int.reduceToNat, Int.reduceEq, Int.reduceLT, Int.reduceLE, Int.reduceAdd, Int.reduceSub, Int.reduceMul, Int.reduceNeg, s_cell_Octile, hm, r_cell_Near]
  cases h1 : nearC x y with
  | false => simp (maxDischargeDepth := 8) only [go_sem, reduceIte, reduceCtorEq, Nat.reduceEqDiff, Nat.reduceAdd, Nat.reduceMul, Nat.reduceSub, Nat.reduceLeDiff, Nat.reduceLT, Nat.reduceBEq, Int.reduceToNat, Int.reduceEq, Int.reduceLT, Int.reduceLE, Int.reduceAdd, Int.reduceSub, Int.reduceMul, Int.reduceNeg]; simp [octC, h1, iB]
  | true =>
    simp (maxDischargeDepth := 8) only [go_sem, reduceIte, reduceCtorEq, Nat.reduceEqDiff, Nat.reduceAdd, Nat.reduceMul, Nat.reduceSub, Nat.reduceLeDiff, Nat.reduceLT, Nat.reduceBEq, Int.reduceToNat, Int.reduceEq, Int.reduceLT, Int.reduceLE, Int.reduceAdd, Int.reduceSub, Int.reduceMul, Int.reduceNeg, hm, r_cell_Near]
    cases h2 : nearC a b with
    | false => simp (maxDischargeDepth := 8) only [go_sem, reduceIte, reduceCtorEq, Nat.reduceEqDiff, Nat.reduceAdd, Nat.reduceMul, Nat.reduceSub, Nat.reduceLeDiff, Nat.reduceLT, Nat.reduceBEq, Int.reduceToNat, Int.reduceEq, Int.reduceLT, Int.reduceLE, Int.reduceAdd, Int.reduceSub, Int.reduceMul, Int.reduceNeg]; simp [octC, h1, h2, iB]
    | true =>
      have n1 := nearC_in h1
      have n2 := nearC_in h2
      have w1 : IntKind.wrap .i64 (x - a) = x - a := wrap_small (by omega) (by omega)
      have w2 : IntKind.wrap .i64 (y - b) = y - b := wrap_small (by omega) (by omega)
      have ho := oct_in (x := absI (x - a)) (y := absI (y - b)) (by rw [absI_eq]; split <;> omega) (by rw [absI_eq]; split <;> omega)
      have w3 : IntKind.wrap .i64 (octI (absI (x - a)) (absI (y - b))) = octI (absI (x - a)) (absI (y - b)) := wrap_small (by omega) (by omega)
      simp (maxDischargeDepth := 8) only [go_sem, reduceIte, reduceCtorEq, Nat.reduceEqDiff, Nat.reduceAdd, Nat.reduceMul, Nat.reduceSub, Nat.reduceLeDiff, Nat.reduceLT, Nat.reduceBEq, Int.reduceToNat, Int.reduceEq, Int.reduceLT, Int.reduceLE, Int.reduceAdd, Int.reduceSub, Int.reduceMul, Int.reduceNeg, hm, w1, w2, fun m => r_fixed_Octile m (x - a) (y - b) (by omega) (by omega)]
      simp only [absI] at w3
      simp [octC, h1, h2, iB, absI, w3]
theorem octC_in (x y a b : Int) : 0 ≤ octC x y a b ∧ octC x y a b ≤ 1000000000 := by
  unfold octC iB
  cases h : (nearC x y && nearC a b) with
  | false => simp
  | true =>
    simp only [Bool.and_eq_true] at h
    have n1 := nearC_in h.1
    have n2 := nearC_in h.2
    have := oct_in (x := absI (x - a)) (y := absI (y - b)) (by rw [absI_eq]; split <;> omega) (by rw [absI_eq]; split <;> omega)
    simp only [if_true] at *
    omega
theorem octC_self (x y : Int) : octC x y x y = 0 := by
  unfold octC iB
  rw [Int.sub_self, Int.sub_self]
  split <;> rfl
/-- One step on costs no less than it brings nearer. -/
theorem octC_step {x y d : Int} (h : stepOk x y d = true) (a b : Int) : octC x y a b ≤ costP d + octC (x + turnX d) (y + turnY d) a b := by
  have hs := step_in h
  unfold octC
  simp only [stepOk, Bool.and_eq_true] at h
  rw [h.1.2, h.2, Bool.true_and]
  unfold iB
  cases hn : nearC a b with
  | false => simp only [Bool.false_eq_true, if_false]; unfold costP; split; split <;> omega; omega
  | true =>
    simp only [if_true]
    have hd := h.1.1
    have hc : d = 0 ∨ d = 1 ∨ d = 2 ∨ d = 3 ∨ d = 4 ∨ d = 5 ∨ d = 6 ∨ d = 7 := by simp [isDir] at hd; omega
    rw [absI_eq, absI_eq, absI_eq, absI_eq]
    unfold octI
    rcases hc with rfl | rfl | rfl | rfl | rfl | rfl | rfl | rfl <;> simp only [costP, isDir, turnX, turnY] <;> simp <;> (repeat' split) <;> omega
theorem firstD_first {p : Int → Prop} {d : Int} (h : p d) (hd : isDir d = true) (hmin : ∀ e, isDir e = true → e < d → ¬ p e) : firstD p 8 = some d := by
  have hd' : 0 ≤ d ∧ d ≤ 7 := by simpa [isDir] using hd
  have key : ∀ n : Nat, n ≤ 8 → 8 - (n : Int) ≤ d → firstD p n = some d := by
    intro n
    induction n with
    | zero => intro _ h; omega
    | succ n ih =>
      intro h8 hn
      simp only [firstD]
      by_cases e : (8 : Int) - ((n + 1 : Nat) : Int) = d
      · rw [e, if_pos h]
      · rw [if_neg (hmin _ (by simp only [isDir, Bool.and_eq_true, decide_eq_true_eq]; omega) (by omega))]
        exact ih (by omega) (by omega)
  exact key 8 (Nat.le_refl _) (by omega)
abbrev neM (X : Mem) (ks : Nat) (c1 c2 r1 r2 : Int) (n0 : Nat) (st : LoopState) (pd : Option Jump) (H : Hp) : Mem :=
  (X.hp H).fr [.cells true [.ptr (.hp ks 0) 0], .cells true [.int .i64 c1, .int .i64 c2], .cells true [.int .i64 r1, .int .i64 r2],
    .loop ⟨st, pd, [(2, .ptr (.st X.dep 0) 0), (3, .ptr (.st X.dep 1) 0), (4, .ptr (.st X.dep 2) 0), (18, .fn f_class_Around_1 [] [.ptr (.hp (n0 + 2) 0) 0, .ptr (.hp n0 0) 0, .ptr (.hp (n0 + 1) 0) 0])], [19, 20], s_route_search_next_p1, s_route_search_next_p5⟩] none
theorem r_route_search_next {X : Mem} {ks kc kd : Nat} {p : WP} {W : Wd} (hW : WorldOwn X.heap p W) (hg : W.Good) {cl sz ax ay aw ah : Int} (hs : hget X.heap ks 0 = some (.cells true (srC p cl sz ax ay aw ah (.map (.hp kc 0)) (.map (.hp kd 0))))) (hw : X.Wf) {M : List (Cl × Int)} {K : List (Cl × Bool)} (hc : hget X.heap kc 0 = some (.map (alV cellW intV M))) (hd : hget X.heap kd 0 = some (.map (alV cellW boolV K)))
    {s : Cl} {h : Cl → Int} {Bo : Option Int} (F : SFin (okS W cl sz (fun c => hasB ax ay aw ah c.1 c.2)) s (gM M) (dK K) h Bo) (hE : Edg (okS W cl sz (fun c => hasB ax ay aw ah c.1 c.2))) (hh : ∀ c d, okS W cl sz (fun c => hasB ax ay aw ah c.1 c.2) c d = true → h c ≤ costP d + h (mvC c d)) (h0 : hasB ax ay aw ah s.1 s.2 = true ∧ W.stands cl sz s.1 s.2 = true) {N : Nat} (hN : N ≤ 20000) (hmb : ∀ c v, gM M c = some v → v ≤ 14 * (N : Int)) {c1 c2 v : Int} (hm : Mn (okS W cl sz (fun c => hasB ax ay aw ah c.1 c.2)) s (c1, c2) v) (hb : ∀ b, Bo = some b → v + h (c1, c2) ≤ b) (hcs : (c1, c2) ≠ s) :
    RF tb f_route_search_next [.ptr (.hp ks 0) 0, .agg [.int .i64 c1, .int .i64 c2]] X = some (.agg [.int .i64 (nxtC (okS W cl sz (fun c => hasB ax ay aw ah c.1 c.2)) s (c1, c2)).1, .int .i64 (nxtC (okS W cl sz (fun c => hasB ax ay aw ah c.1 c.2)) s (c1, c2)).2], X) := by
  rw [RF_go t_route_search_next _ _ rfl, push_hp]
  generalize hH : X.heap = H at *
  have hHl : X.hl = H.length := by rw [← hH]; rfl
  obtain ⟨ok, hok⟩ : ∃ ok, okS W cl sz (fun c => hasB ax ay aw ah c.1 c.2) = ok := ⟨_, rfl⟩
  have hpi : ∀ c v, Pth ok s c v → hasB ax ay aw ah c.1 c.2 = true ∧ W.stands cl sz c.1 c.2 = true := fun c v hp => by
    rw [← hok] at hp
    exact pth_in (s1 := s.1) (s2 := s.2) (inR := fun c => hasB ax ay aw ah c.1 c.2) h0 hp
  rw [hok] at F hE hh hm ⊢
  have dn : dK K (c1, c2) = true := F.all _ v hm.1 hb
  obtain ⟨v', g1, g2⟩ := F.dm _ dn
  obtain rfl := g2.uniq hm
  have hci := hpi _ _ hm.1
  have hv0 := (hm.1.nn hE.dir).1
  have hgood : ∀ d, W.steps cl sz c1 c2 d = true → (Good ok s (c1, c2) d ↔ dK K (c1 + turnX d, c2 + turnY d) = true ∧ ∃ w, gM M (c1 + turnX d, c2 + turnY d) = some w ∧ w + costP d = v') := by
    intro d hst
    cases hin : hasB ax ay aw ah (c1 + turnX d) (c2 + turnY d) with
    | true => exact fin_next F hE hh hm hb d (by rw [← hok]; simp only [okS, mvC, hci.1, hst, hin, Bool.and_self])
    | false =>
      constructor
      · rintro ⟨hk, _⟩
        rw [← hok] at hk
        simp only [okS, mvC, hci.1, hst, hin, Bool.and_false] at hk
        cases hk
      · rintro ⟨h1, w, h2, _⟩
        have := (hpi _ _ (F.p _ _ h2)).1
        dsimp only at this
        rw [hin] at this; cases this
  simp (maxDischargeDepth := 8) only [go_sem, reduceIte, reduceCtorEq, Nat.reduceEqDiff, Nat.reduceAdd, Nat.reduceMul, Nat.reduceSub, Nat.reduceLeDiff, Nat.reduceLT, Nat.reduceBEq, Int.reduceToNat, Int.reduceEq, Int.reduceLT, Int.reduceLE, Int.reduceAdd, Int.reduceSub, Int.reduceMul, Int.reduceNeg, s_route_search_next, hw, hH, hs, srC, r_class_Around]
  obtain ⟨HA, hHA⟩ : ∃ HA, H ++ [(0, SBk.cells true [.ptr (.hp p.k 0) 0]), (0, .cells true [.int .i64 cl, .int .i64 sz]), (0, .cells true [.int .i64 c1, .int .i64 c2])] = HA := ⟨_, rfl⟩
  have kA : Keep [] H HA := by rw [← hHA]; exact Keep.app _ _ _
  have lA : HA.length = H.length + 3 := by rw [← hHA, List.length_append]; rfl
  have a0 : hget HA H.length 0 = some (.cells true [.ptr (.hp p.k 0) 0]) := by rw [← hHA]; exact hget_new0 0 _
  have a1 : hget HA (H.length + 1) 0 = some (.cells true [.int .i64 cl, .int .i64 sz]) := by rw [← hHA]; exact hget_newi 1 0 _
  have a2 : hget HA (H.length + 2) 0 = some (.cells true [.int .i64 c1, .int .i64 c2]) := by rw [← hHA]; exact hget_newi 2 0 _
  rw [hHA]
  obtain ⟨HB, hHB⟩ : ∃ HB, HA ++ [(0, SBk.cells true [.int .i64 c1, .int .i64 c2]), (0, .cells true [.int .i64 0, .int .i64 0, .int .i64 W.w, .int .i64 W.h])] = HB := ⟨_, rfl⟩
  have kB : Keep [] HA HB := by rw [← hHB]; exact Keep.app _ _ _
  have lB : HB.length = HA.length + 2 := by rw [← hHB, List.length_append]; rfl
  have b4 : hget HB HA.length 0 = some (.cells true [.int .i64 c1, .int .i64 c2]) := by rw [← hHB]; exact hget_new0 0 _
  have b5 : hget HB (HA.length + 1) 0 = some (.cells true [.int .i64 0, .int .i64 0, .int .i64 W.w, .int .i64 W.h]) := by rw [← hHB]; exact hget_newi 1 0 _
  have kAB : Keep [] H HB := kA.trans kB
  have hsB := kAB.get hs (by simp)
  have hcB := kAB.get hc (by simp)
  have hdB := kAB.get hd (by simp)
  have hAr : ∀ r1 r2 st pd, ArAt (X.dep + 1) (H.length + 2) H.length (H.length + 1) HA.length p W cl sz c1 c2 (neM X ks c1 c2 r1 r2 H.length st pd HB) := fun r1 r2 st pd =>
    ⟨rfl, by simp (maxDischargeDepth := 8) only [go_sem, reduceIte, reduceCtorEq, Nat.reduceEqDiff, Nat.reduceAdd, Nat.reduceMul, Nat.reduceSub, Nat.reduceLeDiff, Nat.reduceLT, Nat.reduceBEq, Int.reduceToNat, Int.reduceEq, Int.reduceLT, Int.reduceLE, Int.reduceAdd, Int.reduceSub, Int.reduceMul, Int.reduceNeg, hw], kB.get a2 (by simp), kB.get a0 (by simp), kB.get a1 (by simp), (hW.keep kAB (by simp)).at_.sub (by simp (maxDischargeDepth := 8) only [go_sem, reduceIte, reduceCtorEq, Nat.reduceEqDiff, Nat.reduceAdd, Nat.reduceMul, Nat.reduceSub, Nat.reduceLeDiff, Nat.reduceLT, Nat.reduceBEq, Int.reduceToNat, Int.reduceEq, Int.reduceLT, Int.reduceLE, Int.reduceAdd, Int.reduceSub, Int.reduceMul, Int.reduceNeg]), b4, b5⟩
  generalize hz : RF tb f_class_Around_1 _ _ = z
  refine around_rangeZ (d := X.dep + 1) (p := p) hz hg cl sz c1 c2 (fun M1 j m u => u = none ∧ m = neM X ks c1 c2 0 0 H.length .ready none HB ∧ ∀ d, isDir d = true → d < 8 - (j : Int) → ¬ Good ok s (c1, c2) d) (fun M1 j m u => u = none ∧ ∃ d, isDir d = true ∧ firstD (Good ok s (c1, c2)) 8 = some d ∧ m = neM X ks c1 c2 (c1 + turnX d) (c2 + turnY d) H.length .done (some .ret) HB) (Nat.lt_succ_self _) ?_ ?_ ?_ ?_ ?_ ?_ ?_ ?_
  · have := hAr 0 0 .ready none
    rw [neM, ← hHB] at this
    exact this
  · exact (hW.keep kA (by simp)).at_.sub (by simp (maxDischargeDepth := 8) only [go_sem, reduceIte, reduceCtorEq, Nat.reduceEqDiff, Nat.reduceAdd, Nat.reduceMul, Nat.reduceSub, Nat.reduceLeDiff, Nat.reduceLT, Nat.reduceBEq, Int.reduceToNat, Int.reduceEq, Int.reduceLT, Int.reduceLE, Int.reduceAdd, Int.reduceSub, Int.reduceMul, Int.reduceNeg])
  · show H.length + 2 < HA.length; omega
  · show H.length < HA.length; omega
  · show H.length + 1 < HA.length; omega
  · refine ⟨rfl, ?_, fun d h1 h2 => ?_⟩
    · rw [neM, ← hHB]; try rfl
    · simp only [isDir, Bool.and_eq_true, decide_eq_true_eq] at h1; omega
  · rintro M1 j j' m u' hj hj8 hno hst - ⟨rfl, rfl, hng⟩
    generalize hdd : (8 : Int) - ((j' + 1 : Nat) : Int) = dd at *
    have hdir : isDir dd = true := by
      have h1 := steps_dir hst
      simp only [stepOk, Bool.and_eq_true] at h1
      exact h1.1.1
    have hcd := cost_pos hdir
    have hng2 : ∀ e, isDir e = true → e < dd → ¬ Good ok s (c1, c2) e := fun e he hlt => by
      by_cases h8 : e < 8 - (j : Int)
      · exact hng e he h8
      · rintro ⟨hk, _⟩
        have he' : 0 ≤ e ∧ e ≤ 7 := by simpa [isDir] using he
        have hi := hno (7 - e).toNat (by omega) (by omega)
        rw [show (8 : Int) - (((7 - e).toNat + 1 : Nat) : Int) = e by omega] at hi
        rw [← hok] at hk
        simp only [okS, hi, Bool.and_false, Bool.false_and] at hk
        cases hk
    have hgd := hgood dd hst
    by_cases hG : Good ok s (c1, c2) dd
    · obtain ⟨hk1, w, hk2, hk3⟩ := hgd.1 hG
      refine ⟨neM X ks c1 c2 (c1 + turnX dd) (c2 + turnY dd) H.length .done (some .ret) HB, none, false, ?_, hAr _ _ _ _, .inl rfl, fun h => (by cases h), fun _ => ⟨rfl, dd, hdir, firstD_first hG hdir hng2, rfl⟩⟩
      intro fs e
      have wb := hmb _ _ hk2
      have w0 := ((F.p _ _ hk2).nn hE.dir).1
      rw [RV_go (l := ⟨.ready, none, _, _, _, _⟩) _ _ _ (by simp (maxDischargeDepth := 8) only [go_sem, reduceIte, reduceCtorEq, Nat.reduceEqDiff, Nat.reduceAdd, Nat.reduceMul, Nat.reduceSub, Nat.reduceLeDiff, Nat.reduceLT, Nat.reduceBEq, Int.reduceToNat, Int.reduceEq, Int.reduceLT, Int.reduceLE, Int.reduceAdd, Int.reduceSub, Int.reduceMul, Int.reduceNeg, neM]; rfl) rfl rfl (by simp (maxDischargeDepth := 8) only [go_sem, reduceIte, reduceCtorEq, Nat.reduceEqDiff, Nat.reduceAdd, Nat.reduceMul, Nat.reduceSub, Nat.reduceLeDiff, Nat.reduceLT, Nat.reduceBEq, Int.reduceToNat, Int.reduceEq, Int.reduceLT, Int.reduceLE, Int.reduceAdd, Int.reduceSub, Int.reduceMul, Int.reduceNeg, neM, hw])]
      simp (maxDischargeDepth := 8) only [go_sem, reduceIte, reduceCtorEq, Nat.reduceEqDiff, Nat.reduceAdd, Nat.reduceMul, Nat.reduceSub, Nat.reduceLeDiff, Nat.reduceLT, Nat.reduceBEq, Int.reduceToNat, Int.reduceEq, Int.reduceLT, Int.reduceLE, Int.reduceAdd, Int.reduceSub, Int.reduceMul, Int.reduceNeg, neM, hw, hsB, srC, hcB, assoc_cell, gm_getD, gm_some, hk2, Option.isSome_some, Option.getD_some, hdB, dk_getD, hk1, r_cell_Cost, g1, hk3, wrap_small (x := v') (by omega) (by omega), shut_get]
    · refine ⟨neM X ks c1 c2 0 0 H.length .ready none HB, none, true, ?_, hAr _ _ _ _, .inl rfl, fun _ => ⟨rfl, rfl, fun d h1 h2 => ?_⟩, fun h => (by cases h)⟩
      · intro fs e
        rw [RV_go (l := ⟨.ready, none, _, _, _, _⟩) _ _ _ (by simp (maxDischargeDepth := 8) only [go_sem, reduceIte, reduceCtorEq, Nat.reduceEqDiff, Nat.reduceAdd, Nat.reduceMul, Nat.reduceSub, Nat.reduceLeDiff, Nat.reduceLT, Nat.reduceBEq, Int.reduceToNat, Int.reduceEq, Int.reduceLT, Int.reduceLE, Int.reduceAdd, Int.reduceSub, Int.reduceMul, Int.reduceNeg, neM]; rfl) rfl rfl (by simp (maxDischargeDepth := 8) only [go_sem, reduceIte, reduceCtorEq, Nat.reduceEqDiff, Nat.reduceAdd, Nat.reduceMul, Nat.reduceSub, Nat.reduceLeDiff, Nat.reduceLT, Nat.reduceBEq, Int.reduceToNat, Int.reduceEq, Int.reduceLT, Int.reduceLE, Int.reduceAdd, Int.reduceSub, Int.reduceMul, Int.reduceNeg, neM, hw])]
        cases hgm : gM M (c1 + turnX dd, c2 + turnY dd) with
        | none =>
          simp (maxDischargeDepth := 8) only [go_sem, reduceIte, reduceCtorEq, Nat.reduceEqDiff, Nat.reduceAdd, Nat.reduceMul, Nat.reduceSub, Nat.reduceLeDiff, Nat.reduceLT, Nat.reduceBEq, Int.reduceToNat, Int.reduceEq, Int.reduceLT, Int.reduceLE, Int.reduceAdd, Int.reduceSub, Int.reduceMul, Int.reduceNeg, neM, hw, hsB, srC, hcB, assoc_cell, gm_getD, gm_some, hgm, Option.isSome_none, hdB, dk_getD, r_cell_Cost, g1, Option.getD_some]
        | some w =>
          cases hdk : dK K (c1 + turnX dd, c2 + turnY dd) with
          | false => simp (maxDischargeDepth := 8) only [go_sem, reduceIte, reduceCtorEq, Nat.reduceEqDiff, Nat.reduceAdd, Nat.reduceMul, Nat.reduceSub, Nat.reduceLeDiff, Nat.reduceLT, Nat.reduceBEq, Int.reduceToNat, Int.reduceEq, Int.reduceLT, Int.reduceLE, Int.reduceAdd, Int.reduceSub, Int.reduceMul, Int.reduceNeg, neM, hw, hsB, srC, hcB, assoc_cell, gm_getD, gm_some, hgm, Option.isSome_some, hdB, dk_getD, hdk, r_cell_Cost, g1, Option.getD_some, shut_get]
          | true =>
            have wb := hmb _ _ hgm
            have w0 := ((F.p _ _ hgm).nn hE.dir).1
            have hne : (w + costP dd == v') = false := by
              rw [beq_eq_false_iff_ne]
              exact fun hc => hG (hgd.2 ⟨hdk, w, hgm, hc⟩)
            simp (maxDischargeDepth := 8) only [go_sem, reduceIte, reduceCtorEq, Nat.reduceEqDiff, Nat.reduceAdd, Nat.reduceMul, Nat.reduceSub, Nat.reduceLeDiff, Nat.reduceLT, Nat.reduceBEq, Int.reduceToNat, Int.reduceEq, Int.reduceLT, Int.reduceLE, Int.reduceAdd, Int.reduceSub, Int.reduceMul, Int.reduceNeg, neM, hw, hsB, srC, hcB, assoc_cell, gm_getD, gm_some, hgm, Option.isSome_some, hdB, dk_getD, hdk, r_cell_Cost, g1, Option.getD_some, shut_get, wrap_small (x := w + costP dd) (by omega) (by omega), hne]
      · by_cases e1 : d = dd
        · subst e1; exact hG
        · exact hng2 d h1 (by omega)
  · rintro M1 M' U rfl hz' - - (⟨j, hj8, hno, rfl, rfl, hng⟩ | ⟨j, hj8, rfl, d, hdir, hf, rfl⟩)
    · exfalso
      obtain ⟨d, hG⟩ := good_ex hE hm hcs
      have hdir := hE.dir _ _ hG.1
      have he' : 0 ≤ d ∧ d ≤ 7 := by simpa [isDir] using hdir
      by_cases h8 : d < 8 - (j : Int)
      · exact hng d hdir h8 hG
      · have hi := hno (7 - d).toNat (by omega)
        rw [show (8 : Int) - (((7 - d).toNat + 1 : Nat) : Int) = d by omega] at hi
        have hk := hG.1
        rw [← hok] at hk
        simp only [okS, hi, Bool.and_false, Bool.false_and] at hk
        cases hk
    · have hTk : HB.take HA.length = HA := by rw [← hHB]; exact List.take_left
      have hTk2 : HA.take H.length = H := by rw [← hHA]; exact List.take_left
      have hn : nxtC ok s (c1, c2) = (c1 + turnX d, c2 + turnY d) := by unfold nxtC; rw [hf]; rfl
      rw [hn]
      subst hz'
      simp (maxDischargeDepth := 8) only [go_sem, reduceIte, reduceCtorEq, Nat.reduceEqDiff, Nat.reduceAdd, Nat.reduceMul, Nat.reduceSub, Nat.reduceLeDiff, Nat.reduceLT, Nat.reduceBEq, Int.reduceToNat, Int.reduceEq, Int.reduceLT, Int.reduceLE, Int.reduceAdd, Int.reduceSub, Int.reduceMul, Int.reduceNeg, neM, hw, lB, hTk]
      rw [hHl, hTk2, ← hH]
      rfl
theorem edg_ok (W : Wd) (cl sz : Int) (inR : Cl → Bool) : Edg (okS W cl sz inR) where
  dir c d hk := by
    simp only [okS, Bool.and_eq_true] at hk
    have h1 := steps_dir hk.1.2
    simp only [stepOk, Bool.and_eq_true] at h1
    exact h1.1.1
  back c d hk := by
    have hk' := hk
    simp only [okS, Bool.and_eq_true] at hk
    have h1 := steps_dir hk.1.2
    simp only [stepOk, Bool.and_eq_true] at h1
    have hd := h1.1.1
    obtain ⟨b1, b2, b3, b4⟩ := back_turn hd
    have hb := steps_back hk.1.2
    have e : mvC (mvC c d) (backP d) = c := by
      unfold mvC
      rw [b1, b2]
      exact Prod.ext (by dsimp only; omega) (by dsimp only; omega)
    refine ⟨?_, e, ?_⟩
    · simp only [okS, Bool.and_eq_true]
      rw [e]
      exact ⟨⟨hk.2, hb⟩, hk.1.1⟩
    · unfold costP
      rw [b3, hd, if_pos rfl, if_pos rfl]
      by_cases h4 : 4 ≤ d
      · rw [if_neg (by omega), if_neg (by omega)]
      · rw [if_pos (by omega), if_pos (by omega)]
abbrev okR (W : Wd) (cl sz ax ay aw ah : Int) : Cl → Int → Bool := okS W cl sz (fun c => hasB ax ay aw ah c.1 c.2)
/-- May a way be asked for? -/
def Vd (W : Wd) (cl sz ax ay aw ah f1 f2 t1 t2 : Int) : Bool := hasB ax ay aw ah f1 f2 && hasB ax ay aw ah t1 t2 && W.stands cl sz f1 f2 && W.stands cl sz t1 t2
/-- The way, and its cost. -/
def WayRes (W : Wd) (cl sz ax ay aw ah f1 f2 t1 t2 : Int) (N : Nat) (o : Int) (l : List Cl) (c : Int) : Prop :=
  (o = 2 ∧ l = [] ∧ c = 0 ∧ (Vd W cl sz ax ay aw ah f1 f2 t1 t2 = true → ∀ v, ¬ Pth (okR W cl sz ax ay aw ah) (t1, t2) (f1, f2) v)) ∨
  (o = 1 ∧ Vd W cl sz ax ay aw ah f1 f2 t1 t2 = true ∧ Mn (okR W cl sz ax ay aw ah) (t1, t2) (f1, f2) c ∧ c ≤ 14 * (N : Int) ∧ l = wayC (okR W cl sz ax ay aw ah) (t1, t2) c.toNat (f1, f2))
theorem r_route_Find_1 {Y : Mem} (hw : Y.Wf) {d i : Nat} {f1 f2 : Int} (hd : d < Y.dep) (hY : Y.get (.st d i) = some (.cells true [.int .i64 f1, .int .i64 f2])) (x y : Int) : RV tb (.fn f_route_Find_1 [] [.ptr (.st d i) 0]) [.agg [.int .i64 x, .int .i64 y]] Y = some (.int .i64 (octC x y f1 f2), Y) := by
  have hl : Y.load (.st d i) 0 (some 2) = some (.agg [.int .i64 f1, .int .i64 f2]) := by rw [load_get, hY]; rfl
  rw [RV_fn]
  show RF tb f_route_Find_1 [.agg [.int .i64 x, .int .i64 y], .ptr (.st d i) 0] Y = _
  rw [RF_go t_route_Find_1 _ _ rfl]
  simp (maxDischargeDepth := 8) only [go_sem, reduceIte, reduceCtorEq, Nat.reduceEqDiff, Nat.reduceAdd, Nat.reduceMul, Nat.reduceSub, Nat.reduceLeDiff, Nat.reduceLT, Nat.reduceBEq, Int.reduceToNat, Int.reduceEq, Int.reduceLT, Int.reduceLE, Int.reduceAdd, Int.reduceSub, Int.reduceMul, Int.reduceNeg, s_route_Find_1, hw, hd, hl, r_cell_Octile]
theorem octC_cons (W : Wd) (cl sz ax ay aw ah f1 f2 : Int) : ∀ c d, okR W cl sz ax ay aw ah c d = true → octC c.1 c.2 f1 f2 ≤ costP d + octC (mvC c d).1 (mvC c d).2 f1 f2 := fun c d hk => by
  simp only [okR, okS, Bool.and_eq_true] at hk
  exact octC_step (steps_dir hk.1.2) f1 f2
/-- The blocks of Find's frame, but for the current cell's. -/
def fdB (cl sz f1 f2 t1 t2 ax ay aw ah : Int) (hv : SV) (jl : List SBk) : List SBk := [.cells true [.int .i64 cl, .int .i64 sz], .cells true [.int .i64 f1, .int .i64 f2], .cells true [.int .i64 t1, .int .i64 t2], .cells true [.int .i64 ax, .int .i64 ay, .int .i64 aw, .int .i64 ah], .cells true [.int .i64 0, .nils], .cells true [.int .i64 2, .nils], .cells true [.int .i64 1, hv]] ++ jl
section
variable (cl sz f1 f2 t1 t2 ax ay aw ah : Int) (hv : SV) (jl : List SBk)
theorem fdB_2 (c : SBk) : (fdB cl sz f1 f2 t1 t2 ax ay aw ah hv jl ++ [c])[2]? = some (.cells true [.int .i64 t1, .int .i64 t2]) := rfl
theorem fdB_4 (c : SBk) : (fdB cl sz f1 f2 t1 t2 ax ay aw ah hv jl ++ [c])[4]? = some (.cells true [.int .i64 0, .nils]) := rfl
theorem fdB_6 (c : SBk) : (fdB cl sz f1 f2 t1 t2 ax ay aw ah hv jl ++ [c])[6]? = some (.cells true [.int .i64 1, hv]) := rfl
theorem fdB_len : (fdB cl sz f1 f2 t1 t2 ax ay aw ah hv jl).length = 7 + jl.length := by simp [fdB]; omega
theorem fdB_i (c : SBk) : (fdB cl sz f1 f2 t1 t2 ax ay aw ah hv jl ++ [c])[7 + jl.length]? = some c := by rw [← fdB_len cl sz f1 f2 t1 t2 ax ay aw ah hv jl]; simp
theorem fdB_si (c d : SBk) : (fdB cl sz f1 f2 t1 t2 ax ay aw ah hv jl ++ [c]).set (7 + jl.length) d = fdB cl sz f1 f2 t1 t2 ax ay aw ah hv jl ++ [d] := by rw [← fdB_len cl sz f1 f2 t1 t2 ax ay aw ah hv jl, List.set_append_right _ _ (Nat.le_refl _), Nat.sub_self]; rfl
theorem fdB_s6 (c : SBk) (hv2 : SV) : (fdB cl sz f1 f2 t1 t2 ax ay aw ah hv jl ++ [c]).set 6 (.cells true [.int .i64 1, hv2]) = fdB cl sz f1 f2 t1 t2 ax ay aw ah hv2 jl ++ [c] := rfl
theorem fdB_s4 (c : SBk) (v : List SV) : (fdB cl sz f1 f2 t1 t2 ax ay aw ah hv jl ++ [c]).set 4 (.cells true v) = [.cells true [.int .i64 cl, .int .i64 sz], .cells true [.int .i64 f1, .int .i64 f2], .cells true [.int .i64 t1, .int .i64 t2], .cells true [.int .i64 ax, .int .i64 ay, .int .i64 aw, .int .i64 ah], .cells true v, .cells true [.int .i64 2, .nils], .cells true [.int .i64 1, hv]] ++ (jl ++ [c]) := rfl
theorem fdB_new (c d : SBk) : fdB cl sz f1 f2 t1 t2 ax ay aw ah hv jl ++ [c] ++ [d] = fdB cl sz f1 f2 t1 t2 ax ay aw ah hv (jl ++ [c]) ++ [d] := by simp [fdB]
theorem fdB_new' (c d : SBk) : fdB cl sz f1 f2 t1 t2 ax ay aw ah hv jl ++ [c, d] = fdB cl sz f1 f2 t1 t2 ax ay aw ah hv (jl ++ [c]) ++ [d] := by simp [fdB]
theorem fdB_l1 (c : SBk) : (fdB cl sz f1 f2 t1 t2 ax ay aw ah hv jl ++ [c]).length = 7 + (jl ++ [c]).length := by simp [fdB]; omega
end
theorem r_route_Find {X : Mem} {p : WP} {W : Wd} (hW : WorldOwn X.heap p W) (hg : W.Good) (hw : X.Wf) (hhb : X.hb ≤ X.hl) (cl sz f1 f2 t1 t2 ax ay aw ah B : Int) {N : Nat} (hN : N ≤ 20000) (hBr : -9223372036854775808 ≤ B ∧ B ≤ 9223372036854775807) (hcnt : ∀ l : List Cl, l.Nodup → (∀ c ∈ l, hasB ax ay aw ah c.1 c.2 = true ∧ W.stands cl sz c.1 c.2 = true) → l.length ≤ N) :
    ∃ H' u o v l c, RF tb f_route_Find [.ptr (.hp p.k 0) 0, .agg [.int .i64 cl, .int .i64 sz], .agg [.int .i64 f1, .int .i64 f2], .agg [.int .i64 t1, .int .i64 t2], .agg [.int .i64 ax, .int .i64 ay, .int .i64 aw, .int .i64 ah], .int .i64 B] X = some (.tup [.agg [.int .i64 o, v], .int .i64 c], (X.hp H').es (escMin X.esc u)) ∧ Keep [] X.heap H' ∧ Own cellF H' v l ∧ (∀ i ∈ slFp v, X.heap.length ≤ i) ∧
      ((o = 3 ∧ l = [] ∧ c = 0 ∧ B < N) ∨ WayRes W cl sz ax ay aw ah f1 f2 t1 t2 N o l c) := by
  rw [RF_go t_route_Find _ _ rfl, push_hp]
  generalize hH : X.heap = H at *
  have hHl : X.hl = H.length := by rw [← hH]; rfl
  simp (maxDischargeDepth := 8) only [go_sem, reduceIte, reduceCtorEq, Nat.reduceEqDiff, Nat.reduceAdd, Nat.reduceMul, Nat.reduceSub, Nat.reduceLeDiff, Nat.reduceLT, Nat.reduceBEq, Int.reduceToNat, Int.reduceEq, Int.reduceLT, Int.reduceLE, Int.reduceAdd, Int.reduceSub, Int.reduceMul, Int.reduceNeg, s_route_Find, hw, hH, r_cell_Has, r_class_Stands hW.at_ hg]
  have htk : H.take X.hl = H := by rw [hHl, List.take_length]
  have nope : Vd W cl sz ax ay aw ah f1 f2 t1 t2 = false → ∃ H' u o v l c, (some (.tup [.agg [.int .i64 2, .nils], .int .i64 0], X.hp (List.take X.hl H)) : Option (SV × Mem)) = some (.tup [.agg [.int .i64 o, v], .int .i64 c], (X.hp H').es (escMin X.esc u)) ∧ Keep [] H H' ∧ Own cellF H' v l ∧ (∀ i ∈ slFp v, H.length ≤ i) ∧
      ((o = 3 ∧ l = [] ∧ c = 0 ∧ B < N) ∨ WayRes W cl sz ax ay aw ah f1 f2 t1 t2 N o l c) := fun hv => by
    refine ⟨H, none, 2, .nils, [], 0, ?_, Keep.refl _ _, Own.nil _, by simp [slFp], .inr (.inl ⟨rfl, rfl, rfl, fun h => by rw [hv] at h; cases h⟩)⟩
    rw [htk]
    cases X with | mk a b c d e => cases e <;> rfl
  cases h1 : hasB ax ay aw ah f1 f2 with
  | false =>
    simp (maxDischargeDepth := 8) only [go_sem, reduceIte, reduceCtorEq, Nat.reduceEqDiff, Nat.reduceAdd, Nat.reduceMul, Nat.reduceSub, Nat.reduceLeDiff, Nat.reduceLT, Nat.reduceBEq, Int.reduceToNat, Int.reduceEq, Int.reduceLT, Int.reduceLE, Int.reduceAdd, Int.reduceSub, Int.reduceMul, Int.reduceNeg, hw]
    exact nope (by simp [Vd, h1])
  | true =>
    simp (maxDischargeDepth := 8) only [go_sem, reduceIte, reduceCtorEq, Nat.reduceEqDiff, Nat.reduceAdd, Nat.reduceMul, Nat.reduceSub, Nat.reduceLeDiff, Nat.reduceLT, Nat.reduceBEq, Int.reduceToNat, Int.reduceEq, Int.reduceLT, Int.reduceLE, Int.reduceAdd, Int.reduceSub, Int.reduceMul, Int.reduceNeg, hw, r_cell_Has, r_class_Stands hW.at_ hg]
    cases h2 : hasB ax ay aw ah t1 t2 with
    | false =>
      simp (maxDischargeDepth := 8) only [go_sem, reduceIte, reduceCtorEq, Nat.reduceEqDiff, Nat.reduceAdd, Nat.reduceMul, Nat.reduceSub, Nat.reduceLeDiff, Nat.reduceLT, Nat.reduceBEq, Int.reduceToNat, Int.reduceEq, Int.reduceLT, Int.reduceLE, Int.reduceAdd, Int.reduceSub, Int.reduceMul, Int.reduceNeg, hw]
      exact nope (by simp [Vd, h2])
    | true =>
      simp (maxDischargeDepth := 8) only [go_sem, reduceIte, reduceCtorEq, Nat.reduceEqDiff, Nat.reduceAdd, Nat.reduceMul, Nat.reduceSub, Nat.reduceLeDiff, Nat.reduceLT, Nat.reduceBEq, Int.reduceToNat, Int.reduceEq, Int.reduceLT, Int.reduceLE, Int.reduceAdd, Int.reduceSub, Int.reduceMul, Int.reduceNeg, hw, r_cell_Has, r_class_Stands hW.at_ hg]
      cases h3 : W.stands cl sz f1 f2 with
      | false =>
        simp (maxDischargeDepth := 8) only [go_sem, reduceIte, reduceCtorEq, Nat.reduceEqDiff, Nat.reduceAdd, Nat.reduceMul, Nat.reduceSub, Nat.reduceLeDiff, Nat.reduceLT, Nat.reduceBEq, Int.reduceToNat, Int.reduceEq, Int.reduceLT, Int.reduceLE, Int.reduceAdd, Int.reduceSub, Int.reduceMul, Int.reduceNeg, hw]
        exact nope (by simp [Vd, h3])
      | true =>
        simp (maxDischargeDepth := 8) only [go_sem, reduceIte, reduceCtorEq, Nat.reduceEqDiff, Nat.reduceAdd, Nat.reduceMul, Nat.reduceSub, Nat.reduceLeDiff, Nat.reduceLT, Nat.reduceBEq, Int.reduceToNat, Int.reduceEq, Int.reduceLT, Int.reduceLE, Int.reduceAdd, Int.reduceSub, Int.reduceMul, Int.reduceNeg, hw, r_cell_Has, r_class_Stands hW.at_ hg]
        cases h4 : W.stands cl sz t1 t2 with
        | false =>
          simp (maxDischargeDepth := 8) only [go_sem, reduceIte, reduceCtorEq, Nat.reduceEqDiff, Nat.reduceAdd, Nat.reduceMul, Nat.reduceSub, Nat.reduceLeDiff, Nat.reduceLT, Nat.reduceBEq, Int.reduceToNat, Int.reduceEq, Int.reduceLT, Int.reduceLE, Int.reduceAdd, Int.reduceSub, Int.reduceMul, Int.reduceNeg, hw]
          exact nope (by simp [Vd, h4])
        | true =>
          have hvd : Vd W cl sz ax ay aw ah f1 f2 t1 t2 = true := by simp [Vd, h1, h2, h3, h4]
          clear nope
          simp (maxDischargeDepth := 8) only [go_sem, reduceIte, reduceCtorEq, Nat.reduceEqDiff, Nat.reduceAdd, Nat.reduceMul, Nat.reduceSub, Nat.reduceLeDiff, Nat.reduceLT, Nat.reduceBEq, Int.reduceToNat, Int.reduceEq, Int.reduceLT, Int.reduceLE, Int.reduceAdd, Int.reduceSub, Int.reduceMul, Int.reduceNeg, hw]
          obtain ⟨HS, hHS⟩ : ∃ HS, H ++ [(0, SBk.cells true [.ptr (.hp p.k 0) 0, .int .i64 cl, .int .i64 sz, .int .i64 ax, .int .i64 ay, .int .i64 aw, .int .i64 ah, .nilm, .nilm])] = HS := ⟨_, rfl⟩
          have kS : Keep [] H HS := by rw [← hHS]; exact Keep.app _ _ _
          have lS : HS.length = H.length + 1 := by rw [← hHS, List.length_append]; rfl
          have bS : hget HS H.length 0 = some (.cells true (srC p cl sz ax ay aw ah .nilm .nilm)) := by rw [← hHS]; exact hget_new0 0 _
          rw [hHS]
          have hWS := hW.keep kS (by simp)
          have npk : H.length ∉ p.fp := fun hc => by have := hW.at_.lt _ hc; omega
          have hfn : FnV (X.dep + 1) (.fn f_route_Find_1 [] [.ptr (.st X.dep 1) 0]) := by
            refine ⟨rfl, by simp [SV.known], fun a b hab => ?_, fun a b hab => ?_⟩ <;> (simp only [SV.cell, SV.lv, SV.lvs, Bk.lv]; simp; omega)
          generalize hz : RF tb f_route_search_spread _ _ = z
          obtain ⟨b, H', u, M, K, hsp, k1, ⟨kc, kd, q1, q2, q3, q4, q5⟩, hmb, hres⟩ := r_route_search_spread (X := (X.hp HS).fr [.cells true [.int .i64 cl, .int .i64 sz], .cells true [.int .i64 f1, .int .i64 f2], .cells true [.int .i64 t1, .int .i64 t2], .cells true [.int .i64 ax, .int .i64 ay, .int .i64 aw, .int .i64 ah], .cells true [.int .i64 0, .nils], .cells true [.int .i64 2, .nils]] none)
            (ks := H.length) (h := fun a b => octC a b f1 f2) (rv := .fn f_route_Find_1 [] [.ptr (.st X.dep 1) 0]) (N := N) hWS hg npk bS (fr_wf (hp_wf hw) _ _) (by show X.hb ≤ H.length; omega)
            hfn (fun Y _ hl hY x y => r_route_Find_1 hY (by have := hl.1; rw [fr_dep] at this; exact this) (by rw [hl.2 X.dep 1 (by rw [fr_dep]; exact Nat.lt_succ_self _)]; simp (maxDischargeDepth := 8) only [go_sem, reduceIte, reduceCtorEq, Nat.reduceEqDiff, Nat.reduceAdd, Nat.reduceMul, Nat.reduceSub, Nat.reduceLeDiff, Nat.reduceLT, Nat.reduceBEq, Int.reduceToNat, Int.reduceEq, Int.reduceLT, Int.reduceLE, Int.reduceAdd, Int.reduceSub, Int.reduceMul, Int.reduceNeg]) x y) f1 f2 B false hN (fun a b => octC_in a b f1 f2) (octC_cons W cl sz ax ay aw ah f1 f2) hBr ⟨h2, h4⟩ hcnt
          · obtain rfl := hz.symm.trans hsp
            clear hsp hz
            change Keep [H.length] HS H' at k1
            change HS.length ≤ kc at q1
            change HS.length ≤ kd at q2
            simp (maxDischargeDepth := 8) only [go_sem, reduceIte, reduceCtorEq, Nat.reduceEqDiff, Nat.reduceAdd, Nat.reduceMul, Nat.reduceSub, Nat.reduceLeDiff, Nat.reduceLT, Nat.reduceBEq, Int.reduceToNat, Int.reduceEq, Int.reduceLT, Int.reduceLE, Int.reduceAdd, Int.reduceSub, Int.reduceMul, Int.reduceNeg, hw]
            have kHH : Keep [] H H' := kS.trans' k1 (fun m hm hl => by simp at hm; omega)
            cases b with
            | false =>
              rcases hres with ⟨hb, _⟩ | ⟨_, hBN⟩
              · cases hb
              simp (maxDischargeDepth := 8) only [go_sem, reduceIte, reduceCtorEq, Nat.reduceEqDiff, Nat.reduceAdd, Nat.reduceMul, Nat.reduceSub, Nat.reduceLeDiff, Nat.reduceLT, Nat.reduceBEq, Int.reduceToNat, Int.reduceEq, Int.reduceLT, Int.reduceLE, Int.reduceAdd, Int.reduceSub, Int.reduceMul, Int.reduceNeg, hw]
              have kb := (show Keep [] X.heap H' by rw [hH]; exact kHH).back0 (u := u)
              rw [hH] at kb
              exact ⟨_, u, 3, .nils, [], 0, rfl, kb, Own.nil _, by simp [slFp], .inl ⟨rfl, rfl, rfl, hBN⟩⟩
            | true =>
              rcases hres with ⟨_, Bo, hBo, F⟩ | ⟨hb, _⟩
              rotate_left
              · cases hb
              simp (maxDischargeDepth := 8) only [go_sem, reduceIte, reduceCtorEq, Nat.reduceEqDiff, Nat.reduceAdd, Nat.reduceMul, Nat.reduceSub, Nat.reduceLeDiff, Nat.reduceLT, Nat.reduceBEq, Int.reduceToNat, Int.reduceEq, Int.reduceLT, Int.reduceLE, Int.reduceAdd, Int.reduceSub, Int.reduceMul, Int.reduceNeg, hw, q3, srC, q4, assoc_cell, gm_getD, gm_some]
              have hE := edg_ok W cl sz (fun c => hasB ax ay aw ah c.1 c.2)
              cases hgf : gM M (f1, f2) with
              | none =>
                simp (maxDischargeDepth := 8) only [go_sem, reduceIte, reduceCtorEq, Nat.reduceEqDiff, Nat.reduceAdd, Nat.reduceMul, Nat.reduceSub, Nat.reduceLeDiff, Nat.reduceLT, Nat.reduceBEq, Int.reduceToNat, Int.reduceEq, Int.reduceLT, Int.reduceLE, Int.reduceAdd, Int.reduceSub, Int.reduceMul, Int.reduceNeg, hw, Option.getD_none, Option.isSome_none]
                have kb := (show Keep [] X.heap H' by rw [hH]; exact kHH).back0 (u := u)
                rw [hH] at kb
                refine ⟨_, u, 2, .nils, [], 0, rfl, kb, Own.nil _, by simp [slFp], .inr (.inl ⟨rfl, rfl, rfl, fun _ w hp => ?_⟩)⟩
                have hdn := F.all _ w hp (fun b hb => by have := (hBo b hb).2; rw [hgf] at this; cases this)
                obtain ⟨v, hv, _⟩ := F.dm _ hdn
                rw [hgf] at hv; cases hv
              | some v0 =>
                simp (maxDischargeDepth := 8) only [go_sem, reduceIte, reduceCtorEq, Nat.reduceEqDiff, Nat.reduceAdd, Nat.reduceMul, Nat.reduceSub, Nat.reduceLeDiff, Nat.reduceLT, Nat.reduceBEq, Int.reduceToNat, Int.reduceEq, Int.reduceLT, Int.reduceLE, Int.reduceAdd, Int.reduceSub, Int.reduceMul, Int.reduceNeg, hw, Option.getD_some, Option.isSome_some]
                have hoct : octC f1 f2 f1 f2 = 0 := octC_self f1 f2
                have hMn : Mn (okR W cl sz ax ay aw ah) (t1, t2) (f1, f2) v0 := by
                  have hdn := F.all _ v0 (F.p _ _ hgf) (fun b hb => by have := (hBo b hb).2; rw [hgf] at this; cases this; dsimp only; omega)
                  obtain ⟨v, hv, hm⟩ := F.dm _ hdn
                  rw [hgf] at hv; cases hv
                  exact hm
                have hv14 := hmb _ _ hgf
                have hv00 := (hMn.1.nn hE.dir).1
                refine KL_ind (R := fun z => ∃ H' u o v l c, fin [.cell 12 (some 2), .t 13] X z = some (.tup [.agg [.int .i64 o, v], .int .i64 c], (X.hp H').es (escMin X.esc u)) ∧ Keep [] H H' ∧ Own cellF H' v l ∧ (∀ i ∈ slFp v, H.length ≤ i) ∧ ((o = 3 ∧ l = [] ∧ c = 0 ∧ B < N) ∨ WayRes W cl sz ax ay aw ah f1 f2 t1 t2 N o l c)) (α := List Cl × Cl × Int × SV × Hp × Option Nat × List SBk × Option Cl) (fun q => q.2.2.1.toNat)
                  (fun q => match q.2.2.2.2.2.2.2 with
                    | none => [(9, .ptr (.st X.dep 2) 0), (12, .ptr (.st X.dep 4) 0), (15, .ptr (.hp H.length 0) 0), (16, .int .i64 v0), (18, .ptr (.st X.dep 6) 0), (19, .ptr (.st X.dep (7 + q.2.2.2.2.2.2.1.length)) 0)]
                    | some p => [(19, .ptr (.st X.dep (7 + q.2.2.2.2.2.2.1.length)) 0), (85, .agg [.int .i64 p.1, .int .i64 p.2]), (9, .ptr (.st X.dep 2) 0), (12, .ptr (.st X.dep 4) 0), (15, .ptr (.hp H.length 0) 0), (16, .int .i64 v0), (18, .ptr (.st X.dep 6) 0), (19, .ptr (.st X.dep (7 + (q.2.2.2.2.2.2.1.length - 1))) 0)])
                  (fun q => (X.hp q.2.2.2.2.1).fr (fdB cl sz f1 f2 t1 t2 ax ay aw ah q.2.2.2.1 q.2.2.2.2.2.2.1 ++ [.cells true [.int .i64 q.2.1.1, .int .i64 q.2.1.2]]) q.2.2.2.2.2.1)
                  (fun q => Own cellF q.2.2.2.2.1 q.2.2.2.1 q.1 ∧ (∀ i ∈ slFp q.2.2.2.1, H'.length ≤ i) ∧ Keep [] H' q.2.2.2.2.1 ∧ Mn (okR W cl sz ax ay aw ah) (t1, t2) q.2.1 q.2.2.1 ∧ octC q.2.1.1 q.2.1.2 f1 f2 + q.2.2.1 ≤ v0 ∧ wayC (okR W cl sz ax ay aw ah) (t1, t2) v0.toNat (f1, f2) = q.1 ++ wayC (okR W cl sz ax ay aw ah) (t1, t2) v0.toNat q.2.1 ∧ 10 * (q.1.length : Int) + q.2.2.1 ≤ v0) ?_ ([], (f1, f2), v0, .nils, H', u, [], none) ⟨Own.nil _, by simp [slFp], Keep.refl _ _, hMn, by dsimp only; omega, rfl, by simp⟩
                rintro ⟨acc, ⟨c1, c2⟩, vc, hv, Hc, e, jl, pc⟩ ⟨ow, fp, kc', hm, ho, hway, hlen⟩ ih
                dsimp only at ow fp kc' hm ho hway hlen ⊢
                have hk1 := k1.1
                have hk2 := kc'.1
                have hvc := (hm.1.nn hE.dir).1
                have s1 := ow.isSl cellF_even
                by_cases hct : ((c1, c2) : Cl) = (t1, t2)
                · simp only [Prod.mk.injEq] at hct
                  obtain ⟨rfl, rfl⟩ := hct
                  have kkh : Keep [] H Hc := kHH.trans kc'
                  have kb := (show Keep [] X.heap Hc by rw [hH]; exact kkh).back (h := hv.hx) (u := e)
                  rw [hH] at kb
                  have hz0 : vc = 0 := hm.uniq (mn_self hE.dir)
                  rcases pc with _ | pc
                  all_goals dsimp only
                  all_goals simp (maxDischargeDepth := 8) only [go_sem, reduceIte, reduceCtorEq, Nat.reduceEqDiff, Nat.reduceAdd, Nat.reduceMul, Nat.reduceSub, Nat.reduceLeDiff, Nat.reduceLT, Nat.reduceBEq, Int.reduceToNat, Int.reduceEq, Int.reduceLT, Int.reduceLE, Int.reduceAdd, Int.reduceSub, Int.reduceMul, Int.reduceNeg, hw, s1.l, s1.c, s1.k, s1.o, fdB_2, fdB_4, fdB_6, fdB_len, fdB_i, fdB_s4]
                  all_goals
                    refine ⟨_, e, 1, hv, acc, v0, rfl, kb, ow.congr fun i hi => ?_, fun i hi => by have := fp i hi; omega, .inr (.inr ⟨rfl, hvd, hMn, hv14, ?_⟩)⟩
                    · have := fp i hi
                      have h9 := hx_fp hi
                      rw [if_neg (by omega)]
                    · rw [hway, way_nil, List.append_nil]
                · have hne : (c1 == t1 && c2 == t2) = false := by
                    rw [Bool.eq_false_iff]
                    intro hc
                    simp only [Bool.and_eq_true, beq_iff_eq] at hc
                    exact hct (Prod.ext hc.1 hc.2)
                  have hh4 : ∀ c d, okR W cl sz ax ay aw ah c d = true → octC c.1 c.2 f1 f2 ≤ costP d + octC (mvC c d).1 (mvC c d).2 f1 f2 := octC_cons W cl sz ax ay aw ah f1 f2
                  have hnx : ∀ f e, RF tb f_route_search_next [.ptr (.hp H.length 0) 0, .agg [.int .i64 c1, .int .i64 c2]] ((X.hp Hc).fr f e) = some (.agg [.int .i64 (nxtC (okR W cl sz ax ay aw ah) (t1, t2) (c1, c2)).1, .int .i64 (nxtC (okR W cl sz ax ay aw ah) (t1, t2) (c1, c2)).2], (X.hp Hc).fr f e) := fun f e =>
                    r_route_search_next (X := (X.hp Hc).fr f e) (hW.keep (kHH.trans kc') (by simp)) hg (kc'.get q3 (by simp)) (fr_wf (hp_wf hw) _ _) (kc'.get q4 (by simp)) (kc'.get q5 (by simp)) F hE hh4 ⟨h2, h4⟩ hN hmb hm (fun b hb => by have h5 := (hBo b hb).2; rw [hgf] at h5; cases h5; exact (by dsimp only; omega)) hct
                  obtain ⟨d, n1, n2, n3, n4, n5⟩ := nxt_good hE hm hct
                  have hback := hE.back _ _ n2.1
                  have hcd := cost_pos n5
                  have ho2 := hh4 _ _ hback.1
                  rw [hback.2.1, hback.2.2, ← n3] at ho2
                  have hwc := way_cons hE (n := v0.toNat) hm (by omega) hct
                  generalize hnn : nxtC (okR W cl sz ax ay aw ah) (t1, t2) (c1, c2) = nn at *
                  obtain ⟨a1, a2⟩ := nn
                  obtain ⟨hv2, H2, ha, o1, o2, o3, o4⟩ := app1 ow fp kc' (by omega) X (by omega) a1 a2
                  have hvn := (n4.1.nn hE.dir).1
                  have fin2 := ih (acc ++ [(a1, a2)], (a1, a2), vc - costP d, hv2, H2, e, jl ++ [.cells true [.int .i64 a1, .int .i64 a2]], some (a1, a2)) ⟨o1, o3, o2, n4, by dsimp only at ho2 ⊢; omega, by dsimp only; rw [hway, hwc, List.append_assoc]; rfl, by dsimp only; rw [List.length_append, List.length_singleton]; omega⟩ (by dsimp only; omega)
                  dsimp only at fin2
                  rw [show (jl ++ [SBk.cells true [.int .i64 a1, .int .i64 a2]]).length - 1 = jl.length by simp] at fin2
                  rcases pc with _ | pc
                  all_goals dsimp only
                  all_goals simp (maxDischargeDepth := 8) only [go_sem, reduceIte, reduceCtorEq, Nat.reduceEqDiff, Nat.reduceAdd, Nat.reduceMul, Nat.reduceSub, Nat.reduceLeDiff, Nat.reduceLT, Nat.reduceBEq, Int.reduceToNat, Int.reduceEq, Int.reduceLT, Int.reduceLE, Int.reduceAdd, Int.reduceSub, Int.reduceMul, Int.reduceNeg, hw, hne, hnx, s1.l, s1.c, s1.k, s1.o, ha, o4.l, o4.c, o4.k, o4.o, fdB_2, fdB_4, fdB_6, fdB_len, fdB_i, fdB_si, fdB_s6, fdB_new, fdB_new', fdB_l1]
                  all_goals exact fin2
theorem nat_count : ∀ (n : Nat) (l : List Nat), l.Nodup → (∀ x ∈ l, x < n) → l.length ≤ n := by
  intro n
  induction n with
  | zero => intro l _ h; cases l with
    | nil => exact Nat.le_refl _
    | cons a l => exact absurd (h a List.mem_cons_self) (by omega)
  | succ n ih =>
    intro l hn h
    by_cases hm : n ∈ l
    · obtain ⟨a, b, rfl⟩ := List.append_of_mem hm
      have hs : (a ++ b).Nodup := List.Pairwise.sublist (List.Sublist.append (List.Sublist.refl a) (List.sublist_cons_self n b)) hn
      rw [List.nodup_append] at hn
      have := ih (a ++ b) hs (fun x hx => by
        rcases List.mem_append.1 hx with hx | hx
        · have h1 := h x (List.mem_append_left _ hx)
          have h2 := hn.2.2 x hx n List.mem_cons_self
          omega
        · have h1 := h x (List.mem_append_right _ (List.mem_cons_of_mem _ hx))
          have h2 := (List.nodup_cons.1 hn.2.1).1
          have h3 : x ≠ n := fun e => h2 (e ▸ hx)
          omega)
      simp only [List.length_append, List.length_cons] at this ⊢
      omega
    · have := ih l hn (fun x hx => by have h1 := h x hx; have h3 : x ≠ n := fun e => hm (e ▸ hx); omega)
      omega
theorem bx_count (r : Bx) (l : List Cl) (hn : l.Nodup) (h : ∀ c ∈ l, r.has c = true) : l.length ≤ r.n := by
  have := nat_count r.n (l.map r.ix) (by
    rw [List.Nodup, List.pairwise_map]
    refine List.Pairwise.imp_of_mem (fun {a b} ha hb hab e => hab ?_) hn
    have e1 := (Bx.ix_lt (h a ha)).2.1
    have e2 := (Bx.ix_lt (h b hb)).2.1
    rw [← e1, ← e2, e]) (fun x hx => by
    obtain ⟨c, hc, rfl⟩ := List.mem_map.1 hx
    exact (Bx.ix_lt (h c hc)).1)
  simpa using this
def wBx (W : Wd) : Bx := ⟨0, 0, W.w, W.h⟩
theorem stands_bx {W : Wd} {cl sz a b : Int} (h : W.stands cl sz a b = true) : (wBx W).has (a, b) = true := by
  have h1 := (stands_in h).2.2.2.1
  unfold Wd.has at h1
  have h2 := has_iff.1 h1
  exact Bx.has_iff.2 ⟨⟨h2.2.1, h2.2.2.1⟩, h2.2.2.2⟩
theorem wBx_n {W : Wd} (w1 : 1 ≤ W.w ∧ W.w ≤ 128) (h1 : 1 ≤ W.h ∧ W.h ≤ 128) : (wBx W).n ≤ 20000 := by
  show W.w.toNat * W.h.toNat ≤ 20000
  have := Nat.mul_le_mul (show W.w.toNat ≤ 128 by omega) (show W.h.toNat ≤ 128 by omega)
  omega
theorem cnt_w (W : Wd) (cl sz ax ay aw ah : Int) : ∀ l : List Cl, l.Nodup → (∀ c ∈ l, hasB ax ay aw ah c.1 c.2 = true ∧ W.stands cl sz c.1 c.2 = true) → l.length ≤ (wBx W).n := fun l hn h => bx_count (wBx W) l hn fun c hc => stands_bx (h c hc).2
/-- A way that is told with a budget that is enough. -/
theorem find_big {X : Mem} {p : WP} {W : Wd} {cl sz f1 f2 t1 t2 ax ay aw ah : Int} {z : Option (SV × Mem)} (hz : RF tb f_route_Find [.ptr (.hp p.k 0) 0, .agg [.int .i64 cl, .int .i64 sz], .agg [.int .i64 f1, .int .i64 f2], .agg [.int .i64 t1, .int .i64 t2], .agg [.int .i64 ax, .int .i64 ay, .int .i64 aw, .int .i64 ah], .int .i64 1048576] X = z)
    (hW : WorldOwn X.heap p W) (hg : W.Good) (hw : X.Wf) (hhb : X.hb ≤ X.hl) :
    ∃ H' u o v l c, z = some (.tup [.agg [.int .i64 o, v], .int .i64 c], (X.hp H').es (escMin X.esc u)) ∧ Keep [] X.heap H' ∧ Own cellF H' v l ∧ (∀ i ∈ slFp v, X.heap.length ≤ i) ∧ WayRes W cl sz ax ay aw ah f1 f2 t1 t2 (wBx W).n o l c := by
  have hN := wBx_n hW.at_.w1 hW.at_.h1
  obtain ⟨H', u, o, v, l, c, h1, h2, h3, h4, h5⟩ := r_route_Find hW hg hw hhb cl sz f1 f2 t1 t2 ax ay aw ah 1048576 hN (by decide) (cnt_w W cl sz ax ay aw ah)
  refine ⟨H', u, o, v, l, c, hz.symm.trans h1, h2, h3, h4, ?_⟩
  rcases h5 with ⟨_, _, _, h5⟩ | h5
  · omega
  · exact h5
section
variable {W : Wd} {cl sz ax ay aw ah f1 f2 t1 t2 : Int} {N : Nat} {o c : Int} {l : List Cl}
theorem WayRes.c_in (h : WayRes W cl sz ax ay aw ah f1 f2 t1 t2 N o l c) : 0 ≤ c ∧ c ≤ 14 * (N : Int) := by
  rcases h with ⟨_, _, rfl, _⟩ | ⟨_, _, hm, h1, _⟩
  · exact ⟨Int.le_refl _, by omega⟩
  · exact ⟨(hm.1.nn (edg_ok _ _ _ _).dir).1, h1⟩
theorem WayRes.l_in (h : WayRes W cl sz ax ay aw ah f1 f2 t1 t2 N o l c) : 10 * (l.length : Int) ≤ 14 * (N : Int) := by
  rcases h with ⟨_, rfl, rfl, _⟩ | ⟨_, _, hm, h1, rfl⟩
  · simp; omega
  · have := way_len (edg_ok _ _ _ _) c.toNat hm (Nat.le_refl _)
    exact Int.le_trans this h1
theorem WayRes.found (h : WayRes W cl sz ax ay aw ah f1 f2 t1 t2 N 1 l c) : Vd W cl sz ax ay aw ah f1 f2 t1 t2 = true ∧ Mn (okR W cl sz ax ay aw ah) (t1, t2) (f1, f2) c ∧ l = wayC (okR W cl sz ax ay aw ah) (t1, t2) c.toNat (f1, f2) := by
  rcases h with ⟨h, _⟩ | ⟨_, h1, h2, _, h3⟩
  · omega
  · exact ⟨h1, h2, h3⟩
theorem WayRes.of_pth (h : WayRes W cl sz ax ay aw ah f1 f2 t1 t2 N o l c) (hv : Vd W cl sz ax ay aw ah f1 f2 t1 t2 = true) {v : Int} (hp : Pth (okR W cl sz ax ay aw ah) (t1, t2) (f1, f2) v) : o = 1 ∧ c ≤ v := by
  rcases h with ⟨_, _, _, h⟩ | ⟨h1, _, h2, _⟩
  · exact absurd hp (h hv v)
  · exact ⟨h1, h2.2 v hp⟩
end
theorem aw_vd : Vd (Wd.plain 3 3) 0 1 0 0 3 3 0 0 2 1 = true := by decide +kernel
theorem aw_k1 : okR (Wd.plain 3 3) 0 1 0 0 3 3 (2, 1) 6 = true := by decide +kernel
theorem aw_k2 : okR (Wd.plain 3 3) 0 1 0 0 3 3 (1, 0) 2 = true := by decide +kernel
theorem aw_k3 : okR (Wd.plain 3 3) 0 1 0 0 3 3 (0, 0) 0 = true := by decide +kernel
theorem aw_p1 : Pth (okR (Wd.plain 3 3) 0 1 0 0 3 3) (2, 1) (1, 0) 14 := Pth.step (s := (2, 1)) .nil aw_k1
theorem aw_p2 : Pth (okR (Wd.plain 3 3) 0 1 0 0 3 3) (2, 1) (0, 0) 24 := Pth.step aw_p1 aw_k2
theorem aw_m1 : Mn (okR (Wd.plain 3 3) 0 1 0 0 3 3) (2, 1) (1, 0) 14 := ⟨aw_p1, fun v hp => by
  have h := hp.lower (h := fun c => octC c.1 c.2 1 0) (octC_cons _ _ _ _ _ _ _ 1 0)
  have e1 : octC 2 1 1 0 = 14 := by decide +kernel
  have e2 : octC 1 0 1 0 = 0 := by decide +kernel
  dsimp only at h
  omega⟩
theorem aw_m2 : Mn (okR (Wd.plain 3 3) 0 1 0 0 3 3) (2, 1) (0, 0) 24 := ⟨aw_p2, fun v hp => by
  have h := hp.lower (h := fun c => octC c.1 c.2 0 0) (octC_cons _ _ _ _ _ _ _ 0 0)
  have e1 : octC 2 1 0 0 = 24 := by decide +kernel
  have e2 : octC 0 0 0 0 = 0 := by decide +kernel
  dsimp only at h
  omega⟩
theorem aw_way : wayC (okR (Wd.plain 3 3) 0 1 0 0 3 3) (2, 1) 24 (0, 0) = [(1, 0), (2, 1)] := by
  have hE := edg_ok (Wd.plain 3 3) 0 1 (fun c => hasB 0 0 3 3 c.1 c.2)
  have n1 : nxtC (okR (Wd.plain 3 3) 0 1 0 0 3 3) (2, 1) (0, 0) = (1, 0) := by
    have hf : firstD (Good (okR (Wd.plain 3 3) 0 1 0 0 3 3) (2, 1) (0, 0)) 8 = some 0 := firstD_first ⟨aw_k3, 14, aw_m1, aw_m2⟩ rfl (fun e he hlt => by simp [isDir] at he; omega)
    unfold nxtC
    rw [hf]
    rfl
  have n2 : nxtC (okR (Wd.plain 3 3) 0 1 0 0 3 3) (2, 1) (1, 0) = (2, 1) := by
    obtain ⟨d, _, _, _, hm, hd⟩ := nxt_good hE aw_m1 (by decide)
    have hc := cost_pos hd
    have hn := hm.1.nn hE.dir
    by_cases e : nxtC (okR (Wd.plain 3 3) 0 1 0 0 3 3) (2, 1) (1, 0) = (2, 1)
    · exact e
    · have := hn.2 e
      omega
  rw [way_cons hE aw_m2 (by decide) (by decide), n1, way_cons hE aw_m1 (by decide) (by decide), n2, way_nil]
theorem r_law10_awake (X : Mem) (hw : X.Wf) (hhb : X.hb ≤ X.hl) : ∃ H' u, RF tb f_law10_awake [] X = some (.bool true, (X.hp H').es (escMin X.esc u)) ∧ Keep [] X.heap H' := by
  rw [RF_go t_law10_awake _ _ rfl, push_hp]
  generalize hH : X.heap = H
  have hHl : X.hl = H.length := by rw [← hH]; rfl
  obtain ⟨H1, hH1⟩ : ∃ H1, H ++ [(0, SBk.cells true (List.replicate 9 [SV.int IntKind.u8 0]).flatten)] = H1 := ⟨_, rfl⟩
  have own : Own byteF H1 (.sl (.hp H.length 0) 0 9 (some 9) 1) (List.replicate 9 0) := by rw [← hH1]; exact mkslV_own byteF_even H 0 9
  have k1 : Keep [] H H1 := by rw [← hH1]; exact Keep.app _ _ _
  have hn := r_grid_New (X := (X.hp H1).fr [] none) (bl := []) (own.lies byteF_even) (LiesD.nil bldF _) (by decide) (fr_wf (hp_wf hw) _ _) (by show X.hb ≤ H1.length; have := k1.1; omega) 3 3
  rw [plain33] at hn
  obtain ⟨H2, u, p, h1, hO, k2, hF⟩ := hn
  change Keep [] H1 H2 at k2
  have hg := plain_good 3 3
  simp (maxDischargeDepth := 8) only [go_sem, reduceIte, reduceCtorEq, Nat.reduceEqDiff, Nat.reduceAdd, Nat.reduceMul, Nat.reduceSub, Nat.reduceLeDiff, Nat.reduceLT, Nat.reduceBEq, Int.reduceToNat, Int.reduceEq, Int.reduceLT, Int.reduceLE, Int.reduceAdd, Int.reduceSub, Int.reduceMul, Int.reduceNeg, s_law10_awake, hw, hH, show (9 : Int) ≤ (two48 : Int) from by decide, hH1, h1]
  generalize hz : RF tb f_route_Find _ _ = z
  have hl1 := k1.1
  have hl2 := k2.1
  have hcn := cnt_w (Wd.plain 3 3) 0 1 0 0 3 3
  obtain ⟨H3, u3, o, v, l, c, rfl, k3, ow, fp, hres⟩ : ∃ H' u' o v l c, z = some (.tup [.agg [.int .i64 o, v], .int .i64 c], ((X.hp H').fr [] (escMin (escMin none u) u'))) ∧ Keep [] H2 H' ∧ Own cellF H' v l ∧ (∀ i ∈ slFp v, H2.length ≤ i) ∧ WayRes (Wd.plain 3 3) 0 1 0 0 3 3 0 0 2 1 9 o l c := by
    obtain ⟨H', u', o, v, l, c, q1, q2, q3, q4, q5⟩ := r_route_Find (X := (X.hp H2).fr [] (escMin none u)) hO hg (fr_wf (hp_wf hw) _ _) (by show X.hb ≤ H2.length; omega) 0 1 0 0 2 1 0 0 3 3 9 (N := 9) (by decide) (by decide) hcn
    refine ⟨H', u', o, v, l, c, hz.symm.trans q1, q2, q3, q4, ?_⟩
    rcases q5 with ⟨_, _, _, q5⟩ | q5
    · exact absurd q5 (by decide)
    · exact q5
  obtain ⟨rfl, hc⟩ := hres.of_pth aw_vd aw_p2
  obtain ⟨-, hm, hl⟩ := hres.found
  obtain rfl := hm.uniq aw_m2
  rw [show (24 : Int).toNat = 24 from rfl, aw_way] at hl
  subst hl
  have s1 := ow.isSl cellF_even
  have ll := ow.lies cellF_even
  simp (maxDischargeDepth := 8) only [go_sem, reduceIte, reduceCtorEq, Nat.reduceEqDiff, Nat.reduceAdd, Nat.reduceMul, Nat.reduceSub, Nat.reduceLeDiff, Nat.reduceLT, Nat.reduceBEq, Int.reduceToNat, Int.reduceEq, Int.reduceLT, Int.reduceLE, Int.reduceAdd, Int.reduceSub, Int.reduceMul, Int.reduceNeg, hw, s1.l, s1.c, s1.k, s1.o, show ((0 : Int) == 0) = true from rfl, show ((1 : Int) == 1) = true from rfl, show ((24 : Int) == 24) = true from rfl, ll.len, ll.iaddrC0 (by decide), ll.loadC0 (a := (1, 0)) rfl]
  exact ⟨_, _, rfl, by rw [← hH] at k1 ⊢; exact ((k1.trans k2).trans k3).back0⟩
theorem aw10 {X : Mem} {z : Option (SV × Mem)} (hz : RF tb f_law10_awake [] X = z) (hw : X.Wf) (hhb : X.hb ≤ X.hl) : ∃ H' u, z = some (.bool true, (X.hp H').es (escMin X.esc u)) ∧ Keep [] X.heap H' := by
  rw [← hz]
  exact r_law10_awake X hw hhb
abbrev askV (cl sz f1 f2 t1 t2 ax ay aw ah B : Int) : SV := .agg [.int .i64 cl, .int .i64 sz, .int .i64 f1, .int .i64 f2, .int .i64 t1, .int .i64 t2, .int .i64 ax, .int .i64 ay, .int .i64 aw, .int .i64 ah, .int .i64 B]
/-- The farthest cell that a line leads to. -/
def Wd.best (W : Wd) (cl sz x y : Int) (l : List (Int × Int)) : Nat → Nat
  | 0 => 0
  | n + 1 => match l[n]? with
    | some c => if W.legal cl sz x y (lineP x y c.1 c.2) then n + 1 else W.best cl sz x y l n
    | none => W.best cl sz x y l n
theorem r_ref10_Cells {m : Mem} {p q : SV} {l k : List (Int × Int)} (hp : LiesD cellF m p l) (hq : LiesD cellF m q k) (hb : 2 * l.length * 16 ≤ two48) {X : Mem} (hX : HpSub m X) (hw : X.Wf) (hlk : l = k) : RF tb f_ref10_Cells [p, q] X = some (.bool true, X) := by
  subst hlk
  rw [RF_go t_ref10_Cells _ _ rfl]
  simp (maxDischargeDepth := 8) only [go_sem, reduceIte, reduceCtorEq, Nat.reduceEqDiff, Nat.reduceAdd, Nat.reduceMul, Nat.reduceSub, Nat.reduceLeDiff, Nat.reduceLT, Nat.reduceBEq, Int.reduceToNat, Int.reduceEq, Int.reduceLT, Int.reduceLE, Int.reduceAdd, Int.reduceSub, Int.reduceMul, Int.reduceNeg, s_ref10_Cells, hw, hp.len, hq.len, show ((l.length : Int) != (l.length : Int)) = false from by simp]
  rw [KL_keep _ _ _ (by simp (maxDischargeDepth := 8) only [go_sem, reduceIte, reduceCtorEq, Nat.reduceEqDiff, Nat.reduceAdd, Nat.reduceMul, Nat.reduceSub, Nat.reduceLeDiff, Nat.reduceLT, Nat.reduceBEq, Int.reduceToNat, Int.reduceEq, Int.reduceLT, Int.reduceLE, Int.reduceAdd, Int.reduceSub, Int.reduceMul, Int.reduceNeg, hp.lv, hq.lv])]
  simp (maxDischargeDepth := 8) only [go_sem, reduceIte, reduceCtorEq, Nat.reduceEqDiff, Nat.reduceAdd, Nat.reduceMul, Nat.reduceSub, Nat.reduceLeDiff, Nat.reduceLT, Nat.reduceBEq, Int.reduceToNat, Int.reduceEq, Int.reduceLT, Int.reduceLE, Int.reduceAdd, Int.reduceSub, Int.reduceMul, Int.reduceNeg]
  refine KL_indE (α := Nat) (fun i => l.length - i) (fun i => [(0, p), (1, q), (5, .int .i64 (i : Int))]) (fun i => X.fr [] none) (fun i => i ≤ l.length) ?_ 0 (Nat.zero_le _)
  intro i hi ih
  simp (maxDischargeDepth := 8) only [go_sem, reduceIte, reduceCtorEq, Nat.reduceEqDiff, Nat.reduceAdd, Nat.reduceMul, Nat.reduceSub, Nat.reduceLeDiff, Nat.reduceLT, Nat.reduceBEq, Int.reduceToNat, Int.reduceEq, Int.reduceLT, Int.reduceLE, Int.reduceAdd, Int.reduceSub, Int.reduceMul, Int.reduceNeg, hw, hp.len, hp.lv, hq.lv]
  by_cases hlt : i < l.length
  · have hel : l[i]? = some l[i] := List.getElem?_eq_getElem hlt
    have hw2 : IntKind.wrap .i64 ((i : Int) + 1) = ((i + 1 : Nat) : Int) := by rw [wrap_small (by omega) (by simp only [two48] at hb; omega)]; rfl
    simp (maxDischargeDepth := 8) only [go_sem, reduceIte, reduceCtorEq, Nat.reduceEqDiff, Nat.reduceAdd, Nat.reduceMul, Nat.reduceSub, Nat.reduceLeDiff, Nat.reduceLT, Nat.reduceBEq, Int.reduceToNat, Int.reduceEq, Int.reduceLT, Int.reduceLE, Int.reduceAdd, Int.reduceSub, Int.reduceMul, Int.reduceNeg, show decide ((i : Int) < (l.length : Int)) = true from decide_eq_true (by omega), hw, hp.iaddrC hlt, hp.loadC hel, hq.iaddrC hlt, hq.loadC hel, hX, hw2]
    rw [KL_keep _ _ _ (by simp (maxDischargeDepth := 8) only [go_sem, reduceIte, reduceCtorEq, Nat.reduceEqDiff, Nat.reduceAdd, Nat.reduceMul, Nat.reduceSub, Nat.reduceLeDiff, Nat.reduceLT, Nat.reduceBEq, Int.reduceToNat, Int.reduceEq, Int.reduceLT, Int.reduceLE, Int.reduceAdd, Int.reduceSub, Int.reduceMul, Int.reduceNeg, hp.lv, hq.lv])]
    simp (maxDischargeDepth := 8) only [go_sem, reduceIte, reduceCtorEq, Nat.reduceEqDiff, Nat.reduceAdd, Nat.reduceMul, Nat.reduceSub, Nat.reduceLeDiff, Nat.reduceLT, Nat.reduceBEq, Int.reduceToNat, Int.reduceEq, Int.reduceLT, Int.reduceLE, Int.reduceAdd, Int.reduceSub, Int.reduceMul, Int.reduceNeg]
    exact ih (i + 1) (by omega) (by omega)
  · obtain rfl : i = l.length := by omega
    simp (maxDischargeDepth := 8) only [go_sem, reduceIte, reduceCtorEq, Nat.reduceEqDiff, Nat.reduceAdd, Nat.reduceMul, Nat.reduceSub, Nat.reduceLeDiff, Nat.reduceLT, Nat.reduceBEq, Int.reduceToNat, Int.reduceEq, Int.reduceLT, Int.reduceLE, Int.reduceAdd, Int.reduceSub, Int.reduceMul, Int.reduceNeg, show decide (((l.length : Nat) : Int) < (l.length : Int)) = false from decide_eq_false (by omega), hw]
theorem way_step {W : Wd} {cl sz ax ay aw ah t1 t2 x y v : Int} (hm : Mn (okR W cl sz ax ay aw ah) (t1, t2) (x, y) v) (hc : ((x, y) : Cl) ≠ (t1, t2)) {n : Nat} (hn : v.toNat ≤ n) :
    ∃ a b d, wayC (okR W cl sz ax ay aw ah) (t1, t2) n (x, y) = (a, b) :: wayC (okR W cl sz ax ay aw ah) (t1, t2) n (a, b) ∧ dirR x y a b 8 = d ∧ W.steps cl sz x y d = true ∧ (10 ≤ costP d ∧ costP d ≤ 14) ∧ Mn (okR W cl sz ax ay aw ah) (t1, t2) (a, b) (v - costP d) ∧ hasB ax ay aw ah a b = true := by
  have hE := edg_ok W cl sz (fun c => hasB ax ay aw ah c.1 c.2)
  obtain ⟨d, _, hgd, he, hm', hd⟩ := nxt_good hE hm hc
  have hk := hgd.1
  simp only [okR, okS, Bool.and_eq_true] at hk
  have hw := way_cons hE hm hn hc
  rw [he] at hw hm'
  exact ⟨x + turnX d, y + turnY d, d, hw, dirR_step (steps_dir hk.1.2), hk.1.2, cost_pos hd, hm', hk.2⟩
theorem way_vd {W : Wd} {cl sz ax ay aw ah f1 f2 t1 t2 x y v : Int} (hv : Vd W cl sz ax ay aw ah f1 f2 t1 t2 = true) (hm : Mn (okR W cl sz ax ay aw ah) (t1, t2) (x, y) v) : Vd W cl sz ax ay aw ah x y t1 t2 = true := by
  simp only [Vd, Bool.and_eq_true] at hv ⊢
  have := pth_in (inR := fun c => hasB ax ay aw ah c.1 c.2) ⟨hv.1.1.2, hv.2⟩ hm.1
  exact ⟨⟨⟨this.1, hv.1.1.2⟩, this.2⟩, hv.2⟩
theorem r_law10_RouteParts {X : Mem} {tv bv : SV} {tiles : List Int} {bl : List Bld} (hm : MapIn X tv bv tiles bl) (hw : X.Wf) (hhb : X.hb ≤ X.hl) (w hh cl sz f1 f2 t1 t2 ax ay aw ah B : Int) : ∃ m', RF tb f_law10_RouteParts [.agg [.int .i64 w, .int .i64 hh, tv, bv], askV cl sz f1 f2 t1 t2 ax ay aw ah B] X = some (.bool true, m') := by
  rw [RF_go t_law10_RouteParts _ _ rfl, push_hp]
  simp (maxDischargeDepth := 8) only [go_sem, reduceIte, reduceCtorEq, Nat.reduceEqDiff, Nat.reduceAdd, Nat.reduceMul, Nat.reduceSub, Nat.reduceLeDiff, Nat.reduceLT, Nat.reduceBEq, Int.reduceToNat, Int.reduceEq, Int.reduceLT, Int.reduceLE, Int.reduceAdd, Int.reduceSub, Int.reduceMul, Int.reduceNeg, s_law10_RouteParts, askV, hw, hm.t.cell, hm.b.cell]
  generalize hz : RF tb f_law06_Both _ _ = z
  rcases both_of hz ⟨hm.t, hm.g, hm.b, hm.n⟩ (by simp (maxDischargeDepth := 8) only [go_sem, reduceIte, reduceCtorEq, Nat.reduceEqDiff, Nat.reduceAdd, Nat.reduceMul, Nat.reduceSub, Nat.reduceLeDiff, Nat.reduceLT, Nat.reduceBEq, Int.reduceToNat, Int.reduceEq, Int.reduceLT, Int.reduceLE, Int.reduceAdd, Int.reduceSub, Int.reduceMul, Int.reduceNeg, hw]) hhb with ⟨H', u, rfl, k⟩ | ⟨H', u, p, q, rfl, hO, hR, hg, k, -, -⟩
  · have hl : X.hb ≤ H'.length := by have := k.1; exact Nat.le_trans hhb this
    simp (maxDischargeDepth := 8) only [go_sem, reduceIte, reduceCtorEq, Nat.reduceEqDiff, Nat.reduceAdd, Nat.reduceMul, Nat.reduceSub, Nat.reduceLeDiff, Nat.reduceLT, Nat.reduceBEq, Int.reduceToNat, Int.reduceEq, Int.reduceLT, Int.reduceLE, Int.reduceAdd, Int.reduceSub, Int.reduceMul, Int.reduceNeg, hw]
    generalize hz : RF tb f_law10_awake _ _ = z
    obtain ⟨H', u, rfl, -⟩ := aw10 hz (by simp (maxDischargeDepth := 8) only [go_sem, reduceIte, reduceCtorEq, Nat.reduceEqDiff, Nat.reduceAdd, Nat.reduceMul, Nat.reduceSub, Nat.reduceLeDiff, Nat.reduceLT, Nat.reduceBEq, Int.reduceToNat, Int.reduceEq, Int.reduceLT, Int.reduceLE, Int.reduceAdd, Int.reduceSub, Int.reduceMul, Int.reduceNeg, hw]) hl
    simp (maxDischargeDepth := 8) only [go_sem, reduceIte, reduceCtorEq, Nat.reduceEqDiff, Nat.reduceAdd, Nat.reduceMul, Nat.reduceSub, Nat.reduceLeDiff, Nat.reduceLT, Nat.reduceBEq, Int.reduceToNat, Int.reduceEq, Int.reduceLT, Int.reduceLE, Int.reduceAdd, Int.reduceSub, Int.reduceMul, Int.reduceNeg, hw]
    exact ⟨_, rfl⟩
  · have hl : X.hb ≤ H'.length := by have := k.1; exact Nat.le_trans hhb this
    obtain ⟨hwm, _, _⟩ := wrap_mul hO.at_.w1 hO.at_.h1
    dsimp only at hwm
    simp (maxDischargeDepth := 8) only [go_sem, reduceIte, reduceCtorEq, Nat.reduceEqDiff, Nat.reduceAdd, Nat.reduceMul, Nat.reduceSub, Nat.reduceLeDiff, Nat.reduceLT, Nat.reduceBEq, Int.reduceToNat, Int.reduceEq, Int.reduceLT, Int.reduceLE, Int.reduceAdd, Int.reduceSub, Int.reduceMul, Int.reduceNeg, hw, hwm]
    cases hgt : decide (w * hh > 700) with
    | true =>
      simp (maxDischargeDepth := 8) only [go_sem, reduceIte, reduceCtorEq, Nat.reduceEqDiff, Nat.reduceAdd, Nat.reduceMul, Nat.reduceSub, Nat.reduceLeDiff, Nat.reduceLT, Nat.reduceBEq, Int.reduceToNat, Int.reduceEq, Int.reduceLT, Int.reduceLE, Int.reduceAdd, Int.reduceSub, Int.reduceMul, Int.reduceNeg, hw]
      generalize hz : RF tb f_law10_awake _ _ = z
      obtain ⟨H', u, rfl, -⟩ := aw10 hz (by simp (maxDischargeDepth := 8) only [go_sem, reduceIte, reduceCtorEq, Nat.reduceEqDiff, Nat.reduceAdd, Nat.reduceMul, Nat.reduceSub, Nat.reduceLeDiff, Nat.reduceLT, Nat.reduceBEq, Int.reduceToNat, Int.reduceEq, Int.reduceLT, Int.reduceLE, Int.reduceAdd, Int.reduceSub, Int.reduceMul, Int.reduceNeg, hw]) hl
      simp (maxDischargeDepth := 8) only [go_sem, reduceIte, reduceCtorEq, Nat.reduceEqDiff, Nat.reduceAdd, Nat.reduceMul, Nat.reduceSub, Nat.reduceLeDiff, Nat.reduceLT, Nat.reduceBEq, Int.reduceToNat, Int.reduceEq, Int.reduceLT, Int.reduceLE, Int.reduceAdd, Int.reduceSub, Int.reduceMul, Int.reduceNeg, hw]
      exact ⟨_, rfl⟩
    | false =>
      simp (maxDischargeDepth := 8) only [go_sem, reduceIte, reduceCtorEq, Nat.reduceEqDiff, Nat.reduceAdd, Nat.reduceMul, Nat.reduceSub, Nat.reduceLeDiff, Nat.reduceLT, Nat.reduceBEq, Int.reduceToNat, Int.reduceEq, Int.reduceLT, Int.reduceLE, Int.reduceAdd, Int.reduceSub, Int.reduceMul, Int.reduceNeg, hw]
      generalize hz : RF tb f_route_Find _ _ = z
      obtain ⟨H1, u1, o1, v1, l1, c1, rfl, k1, ow1, fp1, r1⟩ := find_big hz hO hg (by simp (maxDischargeDepth := 8) only [go_sem, reduceIte, reduceCtorEq, Nat.reduceEqDiff, Nat.reduceAdd, Nat.reduceMul, Nat.reduceSub, Nat.reduceLeDiff, Nat.reduceLT, Nat.reduceBEq, Int.reduceToNat, Int.reduceEq, Int.reduceLT, Int.reduceLE, Int.reduceAdd, Int.reduceSub, Int.reduceMul, Int.reduceNeg, hw]) hl
      change Keep [] H' H1 at k1
      have s1 := ow1.isSl cellF_even
      have hl1 : X.hb ≤ H1.length := Nat.le_trans hl k1.1
      have hN := wBx_n hO.at_.w1 hO.at_.h1
      simp (maxDischargeDepth := 8) only [go_sem, reduceIte, reduceCtorEq, Nat.reduceEqDiff, Nat.reduceAdd, Nat.reduceMul, Nat.reduceSub, Nat.reduceLeDiff, Nat.reduceLT, Nat.reduceBEq, Int.reduceToNat, Int.reduceEq, Int.reduceLT, Int.reduceLE, Int.reduceAdd, Int.reduceSub, Int.reduceMul, Int.reduceNeg, hw, s1.l, s1.c, s1.k, s1.o]
      rw [KL_keep _ _ _ (by simp (maxDischargeDepth := 8) only [go_sem, reduceIte, reduceCtorEq, Nat.reduceEqDiff, Nat.reduceAdd, Nat.reduceMul, Nat.reduceSub, Nat.reduceLeDiff, Nat.reduceLT, Nat.reduceBEq, Int.reduceToNat, Int.reduceEq, Int.reduceLT, Int.reduceLE, Int.reduceAdd, Int.reduceSub, Int.reduceMul, Int.reduceNeg])]
      simp (maxDischargeDepth := 8) only [go_sem, reduceIte, reduceCtorEq, Nat.reduceEqDiff, Nat.reduceAdd, Nat.reduceMul, Nat.reduceSub, Nat.reduceLeDiff, Nat.reduceLT, Nat.reduceBEq, Int.reduceToNat, Int.reduceEq, Int.reduceLT, Int.reduceLE, Int.reduceAdd, Int.reduceSub, Int.reduceMul, Int.reduceNeg]
      have hlen := r1.l_in
      refine KL_ind (R := fun z => ∃ m', fin [.t 4] X z = some (.bool true, m')) (α := Nat × Cl × Int × Hp × Option Nat) (fun q => l1.length - q.1)
        (fun q => [(3, .ptr (.st X.dep 1) 0), (5, .ptr (.hp p.k 0) 0), (8, .ptr (.st X.dep 2) 0), (9, .int .i64 q.2.2.1), (10, .ptr (.st X.dep 3) 0), (11, .int .i64 (q.1 : Int))])
        (fun q => (X.hp q.2.2.2.1).fr [.cells true [.int .i64 w, .int .i64 hh, tv, bv], .cells true [.int .i64 cl, .int .i64 sz, .int .i64 f1, .int .i64 f2, .int .i64 t1, .int .i64 t2, .int .i64 ax, .int .i64 ay, .int .i64 aw, .int .i64 ah, .int .i64 B], .cells true [.int .i64 o1, v1], .cells true [.int .i64 q.2.1.1, .int .i64 q.2.1.2]] q.2.2.2.2)
        (fun q => q.1 ≤ l1.length ∧ Keep [] H1 q.2.2.2.1 ∧ ((l1 = [] ∧ q.2.2.1 = 0) ∨ (Vd ⟨w, hh, tiles, bl, []⟩ cl sz ax ay aw ah f1 f2 t1 t2 = true ∧ Mn (okR ⟨w, hh, tiles, bl, []⟩ cl sz ax ay aw ah) (t1, t2) q.2.1 q.2.2.1 ∧ l1.drop q.1 = wayC (okR ⟨w, hh, tiles, bl, []⟩ cl sz ax ay aw ah) (t1, t2) c1.toNat q.2.1 ∧ q.2.2.1 ≤ c1))) ?_ (0, (f1, f2), c1, H1, _) ⟨Nat.zero_le _, Keep.refl _ _, ?_⟩
      · rintro ⟨i, ⟨x, y⟩, co, Hc, e⟩ ⟨hi, kc, hI⟩ ih
        dsimp only at hi kc hI ⊢
        have lc := (ow1.keep kc (by simp)).lies cellF_even
        have hlc : X.hb ≤ Hc.length := Nat.le_trans hl1 kc.1
        simp (maxDischargeDepth := 8) only [go_sem, reduceIte, reduceCtorEq, Nat.reduceEqDiff, Nat.reduceAdd, Nat.reduceMul, Nat.reduceSub, Nat.reduceLeDiff, Nat.reduceLT, Nat.reduceBEq, Int.reduceToNat, Int.reduceEq, Int.reduceLT, Int.reduceLE, Int.reduceAdd, Int.reduceSub, Int.reduceMul, Int.reduceNeg, hw, s1.l, lc.len]
        by_cases hlt : i < l1.length
        · rcases hI with ⟨h1, _⟩ | ⟨hv, hMn, hdr, hle⟩
          · rw [h1] at hlt; simp at hlt
          have hct : ((x, y) : Cl) ≠ (t1, t2) := fun hc => by
            rw [hc, way_nil] at hdr
            have := congrArg List.length hdr
            rw [List.length_drop] at this
            simp at this; omega
          have hco := (hMn.1.nn (edg_ok _ _ _ _).dir).1
          obtain ⟨a, b, d, hwy, hdir, _, hcd, hM2, _⟩ := way_step hMn hct (n := c1.toNat) (by omega)
          have hc2 := (hM2.1.nn (edg_ok _ _ _ _).dir).1
          have hel : l1[i]? = some (a, b) := by
            have h9 : (l1.drop i)[0]? = some (a, b) := by rw [hdr, hwy]; rfl
            rw [List.getElem?_drop] at h9
            exact h9
          have hdr2 : l1.drop (i + 1) = wayC (okR ⟨w, hh, tiles, bl, []⟩ cl sz ax ay aw ah) (t1, t2) c1.toNat (a, b) := by
            rw [← List.drop_drop, hdr, hwy]; rfl
          have cin := r1.c_in
          simp (maxDischargeDepth := 8) only [go_sem, reduceIte, reduceCtorEq, Nat.reduceEqDiff, Nat.reduceAdd, Nat.reduceMul, Nat.reduceSub, Nat.reduceLeDiff, Nat.reduceLT, Nat.reduceBEq, Int.reduceToNat, Int.reduceEq, Int.reduceLT, Int.reduceLE, Int.reduceAdd, Int.reduceSub, Int.reduceMul, Int.reduceNeg, show decide ((i : Int) < (l1.length : Int)) = true from decide_eq_true (by omega), hw, s1.l, lc.iaddrC hlt, lc.loadC hel, r_ref03_Dir, hdir, r_ref03_Cost, wrap_small (x := co - costP d) (by omega) (by omega)]
          generalize hz : RF tb f_route_Find _ _ = z
          obtain ⟨H2, u2, o2, v2, l2, c2, rfl, k2, ow2, fp2, r2⟩ := find_big hz ((hO.keep k1 (by simp)).keep kc (by simp)) hg (by simp (maxDischargeDepth := 8) only [go_sem, reduceIte, reduceCtorEq, Nat.reduceEqDiff, Nat.reduceAdd, Nat.reduceMul, Nat.reduceSub, Nat.reduceLeDiff, Nat.reduceLT, Nat.reduceBEq, Int.reduceToNat, Int.reduceEq, Int.reduceLT, Int.reduceLE, Int.reduceAdd, Int.reduceSub, Int.reduceMul, Int.reduceNeg, hw]) hlc
          change Keep [] Hc H2 at k2
          have s2 := ow2.isSl cellF_even
          have l2l := ow2.lies cellF_even
          obtain ⟨rfl, -⟩ := r2.of_pth (way_vd hv hM2) hM2.1
          obtain ⟨-, m2, rfl⟩ := r2.found
          obtain rfl := m2.uniq hM2
          have hfu := way_fuel (edg_ok ⟨w, hh, tiles, bl, []⟩ cl sz (fun c => hasB ax ay aw ah c.1 c.2)) (co - costP d).toNat c1.toNat hM2 (Nat.le_refl _) (by omega)
          have lc2 := ((ow1.keep kc (by simp)).keep k2 (by simp)).lies cellF_even
          have hds : sliceV 2 v1 (some ((i + 1 : Nat) : Int)) none none = some (dropV 2 (i + 1) v1) := Lies.dropS lc2 (by omega)
          have ld : LiesD cellF (Hm H2) (dropV 2 (i + 1) v1) (l1.drop (i + 1)) := LiesD.drop cellF_even lc2 (by omega)
          have hl2n := r2.l_in
          have hcells := fun {Y : Mem} (hX : HpSub (Hm H2) Y) (hwY : Y.Wf) => r_ref10_Cells l2l ld (by simp only [two48]; omega) hX hwY (hfu.trans hdr2.symm)
          simp (maxDischargeDepth := 8) only [go_sem, reduceIte, reduceCtorEq, Nat.reduceEqDiff, Nat.reduceAdd, Nat.reduceMul, Nat.reduceSub, Nat.reduceLeDiff, Nat.reduceLT, Nat.reduceBEq, Int.reduceToNat, Int.reduceEq, Int.reduceLT, Int.reduceLE, Int.reduceAdd, Int.reduceSub, Int.reduceMul, Int.reduceNeg, hw, s1.l, s1.c, s1.k, s1.o, s2.l, s2.c, s2.k, s2.o, show ((1 : Int) != 1) = false from rfl, show ∀ n : Int, (n != n) = false from fun n => by simp, wrap_succ (show i ≤ 4611686018427387903 by omega), hds, hcells]
          rw [KL_keep _ _ _ (by simp (maxDischargeDepth := 8) only [go_sem, reduceIte, reduceCtorEq, Nat.reduceEqDiff, Nat.reduceAdd, Nat.reduceMul, Nat.reduceSub, Nat.reduceLeDiff, Nat.reduceLT, Nat.reduceBEq, Int.reduceToNat, Int.reduceEq, Int.reduceLT, Int.reduceLE, Int.reduceAdd, Int.reduceSub, Int.reduceMul, Int.reduceNeg])]
          simp (maxDischargeDepth := 8) only [go_sem, reduceIte, reduceCtorEq, Nat.reduceEqDiff, Nat.reduceAdd, Nat.reduceMul, Nat.reduceSub, Nat.reduceLeDiff, Nat.reduceLT, Nat.reduceBEq, Int.reduceToNat, Int.reduceEq, Int.reduceLT, Int.reduceLE, Int.reduceAdd, Int.reduceSub, Int.reduceMul, Int.reduceNeg]
          exact ih (i + 1, (a, b), co - costP d, H2, _) ⟨by dsimp only; omega, kc.trans k2, .inr ⟨hv, hM2, hdr2, by dsimp only; omega⟩⟩ (by dsimp only; omega)
        · obtain rfl : i = l1.length := by omega
          have hc0 : co = 0 := by
            rcases hI with ⟨_, h1⟩ | ⟨hv, hMn, hdr, hle⟩
            · exact h1
            · by_cases hct : ((x, y) : Cl) = (t1, t2)
              · rw [hct] at hMn
                exact hMn.uniq (mn_self (edg_ok _ _ _ _).dir)
              · have hco := (hMn.1.nn (edg_ok _ _ _ _).dir).1
                obtain ⟨a, b, d, hwy, _⟩ := way_step hMn hct (n := c1.toNat) (by omega)
                rw [List.drop_length, hwy] at hdr
                cases hdr
          subst hc0
          simp (maxDischargeDepth := 8) only [go_sem, reduceIte, reduceCtorEq, Nat.reduceEqDiff, Nat.reduceAdd, Nat.reduceMul, Nat.reduceSub, Nat.reduceLeDiff, Nat.reduceLT, Nat.reduceBEq, Int.reduceToNat, Int.reduceEq, Int.reduceLT, Int.reduceLE, Int.reduceAdd, Int.reduceSub, Int.reduceMul, Int.reduceNeg, show decide ((l1.length : Int) < (l1.length : Int)) = false from decide_eq_false (by omega), hw, show ((0 : Int) == 0) = true from rfl]
          generalize hz : RF tb f_law10_awake _ _ = z
          obtain ⟨H', u, rfl, -⟩ := aw10 hz (by simp (maxDischargeDepth := 8) only [go_sem, reduceIte, reduceCtorEq, Nat.reduceEqDiff, Nat.reduceAdd, Nat.reduceMul, Nat.reduceSub, Nat.reduceLeDiff, Nat.reduceLT, Nat.reduceBEq, Int.reduceToNat, Int.reduceEq, Int.reduceLT, Int.reduceLE, Int.reduceAdd, Int.reduceSub, Int.reduceMul, Int.reduceNeg, hw]) hlc
          simp (maxDischargeDepth := 8) only [go_sem, reduceIte, reduceCtorEq, Nat.reduceEqDiff, Nat.reduceAdd, Nat.reduceMul, Nat.reduceSub, Nat.reduceLeDiff, Nat.reduceLT, Nat.reduceBEq, Int.reduceToNat, Int.reduceEq, Int.reduceLT, Int.reduceLE, Int.reduceAdd, Int.reduceSub, Int.reduceMul, Int.reduceNeg, hw]
          exact ⟨_, rfl⟩
      · rcases r1 with ⟨_, h1, h2, _⟩ | ⟨_, h1, h2, _, h3⟩
        · exact .inl ⟨h1, h2⟩
        · exact .inr ⟨h1, h2, by dsimp only; rw [h3]; rfl, Int.le_refl _⟩
section
open Go.RowKit Go.WideShapes
abbrev AskT := (Int × Int) × (Int × Int) × (Int × Int) × ((Int × Int) × Int × Int) × Int
abbrev askA (b : AskT) : SV := askV b.1.1 b.1.2 b.2.1.1 b.2.1.2 b.2.2.1.1 b.2.2.1.2 b.2.2.2.1.1.1 b.2.2.2.1.1.2 b.2.2.2.1.2.1 b.2.2.2.1.2.2 b.2.2.2.2
end
section
open Go.RowKit Go.WideShapes
theorem law10_RouteParts {P : Program} {e e' : TypeId} {okB : Bl' → Prop} (a : MT) (b : AskT) (h1 : slOk P e (inR .u8) a.2.2.1) (h2 : slOk P e' okB a.2.2.2) (hB : P.bytesOf e' = 40) {n0 n1 : In} (e0 : n0.map (·.2) = rdM.blks a 0) : ∃ m', RF tb f_law10_RouteParts [.agg (rdM.cells a 0), askA b] (In.mem ([] ++ n0 ++ n1)) = some (.bool true, m') := by
  rw [rdM_blks] at e0
  rw [rdM_cells]
  exact r_law10_RouteParts (mapIn_of (pre := []) h1 h2 hB e0) (In.wf _) (Nat.zero_le _) _ _ _ _ _ _ _ _ _ _ _ _ _
end
end Go.Sh.T
