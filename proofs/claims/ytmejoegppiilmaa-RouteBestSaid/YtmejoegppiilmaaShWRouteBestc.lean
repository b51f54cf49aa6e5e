import Derived.Test.YtmejoegppiilmaaShWRouteBestb
import Derived.Test.YtmejoegppiilmaaShArg
set_option linter.all false
set_option linter.unusedVariables false
set_option linter.unusedSimpArgs false
set_option autoImplicit false
namespace Go.Sh.T
open Go.Sh
set_option maxHeartbeats 8000000
set_option maxRecDepth 20000
theorem firstD_first {p : Int → Prop} {d : Int} (h : p d) (hd : isDir d = true) (hmin : ∀ e, isDir e = true → e < d → ¬ p e) : firstD p 8 = some d := by
  have hd' : 0 ≤ d ∧ d ≤ 7 := by simpa [isDir] using hd
  have key : ∀ n : Nat, n ≤ 8 → 8 - (n : Int) ≤ d → firstD p n = some d := by
    intro n
    induction n with
    | zero => intro _ h; omega
    | succ n ih =>
      intro h8 hn
      simp only [firstD]
      by_cases e : (8 : Int) - ((n + 1 : Nat) : Int) = d
      · rw [e, if_pos h]
      · rw [if_neg (hmin _ (by simp only [isDir, Bool.and_eq_true, decide_eq_true_eq]; omega) (by omega))]
        exact ih (by omega) (by omega)
  exact key 8 (Nat.le_refl _) (by omega)
abbrev neM (X : Mem) (ks : Nat) (c1 c2 r1 r2 : Int) (n0 : Nat) (st : LoopState) (pd : Option Jump) (H : Hp) : Mem :=
  (X.hp H).fr [.cells true [.ptr (.hp ks 0) 0], .cells true [.int .i64 c1, .int .i64 c2], .cells true [.int .i64 r1, .int .i64 r2],
    .loop ⟨st, pd, [(2, .ptr (.st X.dep 0) 0), (3, .ptr (.st X.dep 1) 0), (4, .ptr (.st X.dep 2) 0), (18, .fn f_class_Around_1 [] [.ptr (.hp (n0 + 2) 0) 0, .ptr (.hp n0 0) 0, .ptr (.hp (n0 + 1) 0) 0])], [19, 20], s_route_search_next_p1, s_route_search_next_p5⟩] none
theorem r_route_search_next {X : Mem} {ks kc kd : Nat} {p : WP} {W : Wd} (hW : WorldOwn X.heap p W) (hg : W.Good) {cl sz ax ay aw ah : Int} (hs : hget X.heap ks 0 = some (.cells true (srC p cl sz ax ay aw ah (.map (.hp kc 0)) (.map (.hp kd 0))))) (hw : X.Wf) {M : List (Cl × Int)} {K : List (Cl × Bool)} (hc : hget X.heap kc 0 = some (.map (alV cellW intV M))) (hd : hget X.heap kd 0 = some (.map (alV cellW boolV K)))
    {s : Cl} {h : Cl → Int} {Bo : Option Int} (F : SFin (okS W cl sz (fun c => hasB ax ay aw ah c.1 c.2)) s (gM M) (dK K) h Bo) (hE : Edg (okS W cl sz (fun c => hasB ax ay aw ah c.1 c.2))) (hh : ∀ c d, okS W cl sz (fun c => hasB ax ay aw ah c.1 c.2) c d = true → h c ≤ costP d + h (mvC c d)) (h0 : hasB ax ay aw ah s.1 s.2 = true ∧ W.stands cl sz s.1 s.2 = true) {N : Nat} (hN : N ≤ 20000) (hmb : ∀ c v, gM M c = some v → v ≤ 14 * (N : Int)) {c1 c2 v : Int} (hm : Mn (okS W cl sz (fun c => hasB ax ay aw ah c.1 c.2)) s (c1, c2) v) (hb : ∀ b, Bo = some b → v + h (c1, c2) ≤ b) (hcs : (c1, c2) ≠ s) :
    RF tb f_route_search_next [.ptr (.hp ks 0) 0, .agg [.int .i64 c1, .int .i64 c2]] X = some (.agg [.int .i64 (nxtC (okS W cl sz (fun c => hasB ax ay aw ah c.1 c.2)) s (c1, c2)).1, .int .i64 (nxtC (okS W cl sz (fun c => hasB ax ay aw ah c.1 c.2)) s (c1, c2)).2], X) := by
  rw [RF_go t_route_search_next _ _ rfl, push_hp]
  generalize hH : X.heap = H at *
  have hHl : X.hl = H.length := by rw [← hH]; rfl
  obtain ⟨ok, hok⟩ : ∃ ok, okS W cl sz (fun c => hasB ax ay aw ah c.1 c.2) = ok := ⟨_, rfl⟩
  have hpi : ∀ c v, Pth ok s c v → hasB ax ay aw ah c.1 c.2 = true ∧ W.stands cl sz c.1 c.2 = true := fun c v hp => by
    rw [← hok] at hp
    exact pth_in (s1 := s.1) (s2 := s.2) (inR := fun c => hasB ax ay aw ah c.1 c.2) h0 hp
  rw [hok] at F hE hh hm ⊢
  have dn : dK K (c1, c2) = true := F.all _ v hm.1 hb
  obtain ⟨v', g1, g2⟩ := F.dm _ dn
  obtain rfl := g2.uniq hm
  have hci := hpi _ _ hm.1
  have hv0 := (hm.1.nn hE.dir).1
  have hgood : ∀ d, W.steps cl sz c1 c2 d = true → (Good ok s (c1, c2) d ↔ dK K (c1 + turnX d, c2 + turnY d) = true ∧ ∃ w, gM M (c1 + turnX d, c2 + turnY d) = some w ∧ w + costP d = v') := by
    intro d hst
    cases hin : hasB ax ay aw ah (c1 + turnX d) (c2 + turnY d) with
    | true => exact fin_next F hE hh hm hb d (by rw [← hok]; simp only [okS, mvC, hci.1, hst, hin, Bool.and_self])
    | false =>
      constructor
      · rintro ⟨hk, _⟩
        rw [← hok] at hk
        simp only [okS, mvC, hci.1, hst, hin, Bool.and_false] at hk
        cases hk
      · rintro ⟨h1, w, h2, _⟩
        have := (hpi _ _ (F.p _ _ h2)).1
        dsimp only at this
        rw [hin] at this; cases this
  simp (maxDischargeDepth := 8) only [go_sem, s_route_search_next, hw, hH, hs, srC, r_class_Around]
  obtain ⟨HA, hHA⟩ : ∃ HA, H ++ [(0, SBk.cells true [.ptr (.hp p.k 0) 0]), (0, .cells true [.int .i64 cl, .int .i64 sz]), (0, .cells true [.int .i64 c1, .int .i64 c2])] = HA := ⟨_, rfl⟩
  have kA : Keep [] H HA := by rw [← hHA]; exact Keep.app _ _ _
  have lA : HA.length = H.length + 3 := by rw [← hHA, List.length_append]; rfl
  have a0 : hget HA H.length 0 = some (.cells true [.ptr (.hp p.k 0) 0]) := by rw [← hHA]; exact hget_new0 0 _
  have a1 : hget HA (H.length + 1) 0 = some (.cells true [.int .i64 cl, .int .i64 sz]) := by rw [← hHA]; exact hget_newi 1 0 _
  have a2 : hget HA (H.length + 2) 0 = some (.cells true [.int .i64 c1, .int .i64 c2]) := by rw [← hHA]; exact hget_newi 2 0 _
  rw [hHA]
  obtain ⟨HB, hHB⟩ : ∃ HB, HA ++ [(0, SBk.cells true [.int .i64 c1, .int .i64 c2]), (0, .cells true [.int .i64 0, .int .i64 0, .int .i64 W.w, .int .i64 W.h])] = HB := ⟨_, rfl⟩
  have kB : Keep [] HA HB := by rw [← hHB]; exact Keep.app _ _ _
  have lB : HB.length = HA.length + 2 := by rw [← hHB, List.length_append]; rfl
  have b4 : hget HB HA.length 0 = some (.cells true [.int .i64 c1, .int .i64 c2]) := by rw [← hHB]; exact hget_new0 0 _
  have b5 : hget HB (HA.length + 1) 0 = some (.cells true [.int .i64 0, .int .i64 0, .int .i64 W.w, .int .i64 W.h]) := by rw [← hHB]; exact hget_newi 1 0 _
  have kAB : Keep [] H HB := kA.trans kB
  have hsB := kAB.get hs (by simp)
  have hcB := kAB.get hc (by simp)
  have hdB := kAB.get hd (by simp)
  have hAr : ∀ r1 r2 st pd, ArAt (X.dep + 1) (H.length + 2) H.length (H.length + 1) HA.length p W cl sz c1 c2 (neM X ks c1 c2 r1 r2 H.length st pd HB) := fun r1 r2 st pd =>
    ⟨rfl, by simp (maxDischargeDepth := 8) only [go_sem, hw], kB.get a2 (by simp), kB.get a0 (by simp), kB.get a1 (by simp), (hW.keep kAB (by simp)).at_.sub (by simp (maxDischargeDepth := 8) only [go_sem]), b4, b5⟩
  generalize hz : RF tb f_class_Around_1 _ _ = z
  refine around_rangeZ (d := X.dep + 1) (p := p) hz hg cl sz c1 c2 (fun M1 j m u => u = none ∧ m = neM X ks c1 c2 0 0 H.length .ready none HB ∧ ∀ d, isDir d = true → d < 8 - (j : Int) → ¬ Good ok s (c1, c2) d) (fun M1 j m u => u = none ∧ ∃ d, isDir d = true ∧ firstD (Good ok s (c1, c2)) 8 = some d ∧ m = neM X ks c1 c2 (c1 + turnX d) (c2 + turnY d) H.length .done (some .ret) HB) (Nat.lt_succ_self _) ?_ ?_ ?_ ?_ ?_ ?_ ?_ ?_
  · have := hAr 0 0 .ready none
    rw [neM, ← hHB] at this
    exact this
  · exact (hW.keep kA (by simp)).at_.sub (by simp (maxDischargeDepth := 8) only [go_sem])
  · show H.length + 2 < HA.length; omega
  · show H.length < HA.length; omega
  · show H.length + 1 < HA.length; omega
  · refine ⟨rfl, ?_, fun d h1 h2 => ?_⟩
    · rw [neM, ← hHB]; try rfl
    · simp only [isDir, Bool.and_eq_true, decide_eq_true_eq] at h1; omega
  · rintro M1 j j' m u' hj hj8 hno hst - ⟨rfl, rfl, hng⟩
    generalize hdd : (8 : Int) - ((j' + 1 : Nat) : Int) = dd at *
    have hdir : isDir dd = true := by
      have h1 := steps_dir hst
      simp only [stepOk, Bool.and_eq_true] at h1
      exact h1.1.1
    have hcd := cost_pos hdir
    have hng2 : ∀ e, isDir e = true → e < dd → ¬ Good ok s (c1, c2) e := fun e he hlt => by
      by_cases h8 : e < 8 - (j : Int)
      · exact hng e he h8
      · rintro ⟨hk, _⟩
        have he' : 0 ≤ e ∧ e ≤ 7 := by simpa [isDir] using he
        have hi := hno (7 - e).toNat (by omega) (by omega)
        rw [show (8 : Int) - (((7 - e).toNat + 1 : Nat) : Int) = e by omega] at hi
        rw [← hok] at hk
        simp only [okS, hi, Bool.and_false, Bool.false_and] at hk
        cases hk
    have hgd := hgood dd hst
    by_cases hG : Good ok s (c1, c2) dd
    · obtain ⟨hk1, w, hk2, hk3⟩ := hgd.1 hG
      refine ⟨neM X ks c1 c2 (c1 + turnX dd) (c2 + turnY dd) H.length .done (some .ret) HB, none, false, ?_, hAr _ _ _ _, .inl rfl, fun h => (by cases h), fun _ => ⟨rfl, dd, hdir, firstD_first hG hdir hng2, rfl⟩⟩
      intro fs e
      have wb := hmb _ _ hk2
      have w0 := ((F.p _ _ hk2).nn hE.dir).1
      rw [RV_go (l := ⟨.ready, none, _, _, _, _⟩) _ _ _ (by simp (maxDischargeDepth := 8) only [go_sem, neM]; rfl) rfl rfl (by simp (maxDischargeDepth := 8) only [go_sem, neM, hw])]
      simp (maxDischargeDepth := 8) only [go_sem, neM, hw, hsB, srC, hcB, assoc_cell, gm_getD, gm_some, hk2, Option.isSome_some, Option.getD_some, hdB, dk_getD, hk1, r_cell_Cost, g1, hk3, wrap_small (x := v') (by omega) (by omega), shut_get]
    · refine ⟨neM X ks c1 c2 0 0 H.length .ready none HB, none, true, ?_, hAr _ _ _ _, .inl rfl, fun _ => ⟨rfl, rfl, fun d h1 h2 => ?_⟩, fun h => (by cases h)⟩
      · intro fs e
        rw [RV_go (l := ⟨.ready, none, _, _, _, _⟩) _ _ _ (by simp (maxDischargeDepth := 8) only [go_sem, neM]; rfl) rfl rfl (by simp (maxDischargeDepth := 8) only [go_sem, neM, hw])]
        cases hgm : gM M (c1 + turnX dd, c2 + turnY dd) with
        | none =>
          simp (maxDischargeDepth := 8) only [go_sem, neM, hw, hsB, srC, hcB, assoc_cell, gm_getD, gm_some, hgm, Option.isSome_none, hdB, dk_getD, r_cell_Cost, g1, Option.getD_some]
        | some w =>
          cases hdk : dK K (c1 + turnX dd, c2 + turnY dd) with
          | false => simp (maxDischargeDepth := 8) only [go_sem, neM, hw, hsB, srC, hcB, assoc_cell, gm_getD, gm_some, hgm, Option.isSome_some, hdB, dk_getD, hdk, r_cell_Cost, g1, Option.getD_some, shut_get]
          | true =>
            have wb := hmb _ _ hgm
            have w0 := ((F.p _ _ hgm).nn hE.dir).1
            have hne : (w + costP dd == v') = false := by
              rw [beq_eq_false_iff_ne]
              exact fun hc => hG (hgd.2 ⟨hdk, w, hgm, hc⟩)
            simp (maxDischargeDepth := 8) only [go_sem, neM, hw, hsB, srC, hcB, assoc_cell, gm_getD, gm_some, hgm, Option.isSome_some, hdB, dk_getD, hdk, r_cell_Cost, g1, Option.getD_some, shut_get, wrap_small (x := w + costP dd) (by omega) (by omega), hne]
      · by_cases e1 : d = dd
        · subst e1; exact hG
        · exact hng2 d h1 (by omega)
  · rintro M1 M' U rfl hz' - - (⟨j, hj8, hno, rfl, rfl, hng⟩ | ⟨j, hj8, rfl, d, hdir, hf, rfl⟩)
    · exfalso
      obtain ⟨d, hG⟩ := good_ex hE hm hcs
      have hdir := hE.dir _ _ hG.1
      have he' : 0 ≤ d ∧ d ≤ 7 := by simpa [isDir] using hdir
      by_cases h8 : d < 8 - (j : Int)
      · exact hng d hdir h8 hG
      · have hi := hno (7 - d).toNat (by omega)
        rw [show (8 : Int) - (((7 - d).toNat + 1 : Nat) : Int) = d by omega] at hi
        have hk := hG.1
        rw [← hok] at hk
        simp only [okS, hi, Bool.and_false, Bool.false_and] at hk
        cases hk
    · have hTk : HB.take HA.length = HA := by rw [← hHB]; exact List.take_left
      have hTk2 : HA.take H.length = H := by rw [← hHA]; exact List.take_left
      have hn : nxtC ok s (c1, c2) = (c1 + turnX d, c2 + turnY d) := by unfold nxtC; rw [hf]; rfl
      rw [hn]
      subst hz'
      simp (maxDischargeDepth := 8) only [go_sem, neM, hw, lB, hTk]
      rw [hHl, hTk2, ← hH]
      rfl
theorem edg_ok (W : Wd) (cl sz : Int) (inR : Cl → Bool) : Edg (okS W cl sz inR) where
  dir c d hk := by
    simp only [okS, Bool.and_eq_true] at hk
    have h1 := steps_dir hk.1.2
    simp only [stepOk, Bool.and_eq_true] at h1
    exact h1.1.1
  back c d hk := by
    have hk' := hk
    simp only [okS, Bool.and_eq_true] at hk
    have h1 := steps_dir hk.1.2
    simp only [stepOk, Bool.and_eq_true] at h1
    have hd := h1.1.1
    obtain ⟨b1, b2, b3, b4⟩ := back_turn hd
    have hb := steps_back hk.1.2
    have e : mvC (mvC c d) (backP d) = c := by
      unfold mvC
      rw [b1, b2]
      exact Prod.ext (by dsimp only; omega) (by dsimp only; omega)
    refine ⟨?_, e, ?_⟩
    · simp only [okS, Bool.and_eq_true]
      rw [e]
      exact ⟨⟨hk.2, hb⟩, hk.1.1⟩
    · unfold costP
      rw [b3, hd, if_pos rfl, if_pos rfl]
      by_cases h4 : 4 ≤ d
      · rw [if_neg (by omega), if_neg (by omega)]
      · rw [if_pos (by omega), if_pos (by omega)]
abbrev okR (W : Wd) (cl sz ax ay aw ah : Int) : Cl → Int → Bool := okS W cl sz (fun c => hasB ax ay aw ah c.1 c.2)
/-- May a way be asked for? -/
def Vd (W : Wd) (cl sz ax ay aw ah f1 f2 t1 t2 : Int) : Bool := hasB ax ay aw ah f1 f2 && hasB ax ay aw ah t1 t2 && W.stands cl sz f1 f2 && W.stands cl sz t1 t2
/-- The way, and its cost. -/
def WayRes (W : Wd) (cl sz ax ay aw ah f1 f2 t1 t2 : Int) (N : Nat) (o : Int) (l : List Cl) (c : Int) : Prop :=
  (o = 2 ∧ l = [] ∧ c = 0 ∧ (Vd W cl sz ax ay aw ah f1 f2 t1 t2 = true → ∀ v, ¬ Pth (okR W cl sz ax ay aw ah) (t1, t2) (f1, f2) v)) ∨
  (o = 1 ∧ Vd W cl sz ax ay aw ah f1 f2 t1 t2 = true ∧ Mn (okR W cl sz ax ay aw ah) (t1, t2) (f1, f2) c ∧ c ≤ 14 * (N : Int) ∧ l = wayC (okR W cl sz ax ay aw ah) (t1, t2) c.toNat (f1, f2))
theorem r_route_Find_1 {Y : Mem} (hw : Y.Wf) {d i : Nat} {f1 f2 : Int} (hd : d < Y.dep) (hY : Y.get (.st d i) = some (.cells true [.int .i64 f1, .int .i64 f2])) (x y : Int) : RV tb (.fn f_route_Find_1 [] [.ptr (.st d i) 0]) [.agg [.int .i64 x, .int .i64 y]] Y = some (.int .i64 (octC x y f1 f2), Y) := by
  have hl : Y.load (.st d i) 0 (some 2) = some (.agg [.int .i64 f1, .int .i64 f2]) := by rw [load_get, hY]; rfl
  rw [RV_fn]
  show RF tb f_route_Find_1 [.agg [.int .i64 x, .int .i64 y], .ptr (.st d i) 0] Y = _
  rw [RF_go t_route_Find_1 _ _ rfl]
  simp (maxDischargeDepth := 8) only [go_sem, s_route_Find_1, hw, hd, hl, r_cell_Octile]
theorem octC_cons (W : Wd) (cl sz ax ay aw ah f1 f2 : Int) : ∀ c d, okR W cl sz ax ay aw ah c d = true → octC c.1 c.2 f1 f2 ≤ costP d + octC (mvC c d).1 (mvC c d).2 f1 f2 := fun c d hk => by
  simp only [okR, okS, Bool.and_eq_true] at hk
  exact octC_step (steps_dir hk.1.2) f1 f2
/-- The blocks of Find's frame, but for the current cell's. -/
def fdB (cl sz f1 f2 t1 t2 ax ay aw ah : Int) (hv : SV) (jl : List SBk) : List SBk := [.cells true [.int .i64 cl, .int .i64 sz], .cells true [.int .i64 f1, .int .i64 f2], .cells true [.int .i64 t1, .int .i64 t2], .cells true [.int .i64 ax, .int .i64 ay, .int .i64 aw, .int .i64 ah], .cells true [.int .i64 0, .nils], .cells true [.int .i64 2, .nils], .cells true [.int .i64 1, hv]] ++ jl
section
variable (cl sz f1 f2 t1 t2 ax ay aw ah : Int) (hv : SV) (jl : List SBk)
theorem fdB_2 (c : SBk) : (fdB cl sz f1 f2 t1 t2 ax ay aw ah hv jl ++ [c])[2]? = some (.cells true [.int .i64 t1, .int .i64 t2]) := rfl
theorem fdB_4 (c : SBk) : (fdB cl sz f1 f2 t1 t2 ax ay aw ah hv jl ++ [c])[4]? = some (.cells true [.int .i64 0, .nils]) := rfl
theorem fdB_6 (c : SBk) : (fdB cl sz f1 f2 t1 t2 ax ay aw ah hv jl ++ [c])[6]? = some (.cells true [.int .i64 1, hv]) := rfl
theorem fdB_len : (fdB cl sz f1 f2 t1 t2 ax ay aw ah hv jl).length = 7 + jl.length := by simp [fdB]; omega
theorem fdB_i (c : SBk) : (fdB cl sz f1 f2 t1 t2 ax ay aw ah hv jl ++ [c])[7 + jl.length]? = some c := by rw [← fdB_len cl sz f1 f2 t1 t2 ax ay aw ah hv jl]; simp
theorem fdB_si (c d : SBk) : (fdB cl sz f1 f2 t1 t2 ax ay aw ah hv jl ++ [c]).set (7 + jl.length) d = fdB cl sz f1 f2 t1 t2 ax ay aw ah hv jl ++ [d] := by rw [← fdB_len cl sz f1 f2 t1 t2 ax ay aw ah hv jl, List.set_append_right _ _ (Nat.le_refl _), Nat.sub_self]; rfl
theorem fdB_s6 (c : SBk) (hv2 : SV) : (fdB cl sz f1 f2 t1 t2 ax ay aw ah hv jl ++ [c]).set 6 (.cells true [.int .i64 1, hv2]) = fdB cl sz f1 f2 t1 t2 ax ay aw ah hv2 jl ++ [c] := rfl
theorem fdB_s4 (c : SBk) (v : List SV) : (fdB cl sz f1 f2 t1 t2 ax ay aw ah hv jl ++ [c]).set 4 (.cells true v) = [.cells true [.int .i64 cl, .int .i64 sz], .cells true [.int .i64 f1, .int .i64 f2], .cells true [.int .i64 t1, .int .i64 t2], .cells true [.int .i64 ax, .int .i64 ay, .int .i64 aw, .int .i64 ah], .cells true v, .cells true [.int .i64 2, .nils], .cells true [.int .i64 1, hv]] ++ (jl ++ [c]) := rfl
theorem fdB_new (c d : SBk) : fdB cl sz f1 f2 t1 t2 ax ay aw ah hv jl ++ [c] ++ [d] = fdB cl sz f1 f2 t1 t2 ax ay aw ah hv (jl ++ [c]) ++ [d] := by simp [fdB]
theorem fdB_new' (c d : SBk) : fdB cl sz f1 f2 t1 t2 ax ay aw ah hv jl ++ [c, d] = fdB cl sz f1 f2 t1 t2 ax ay aw ah hv (jl ++ [c]) ++ [d] := by simp [fdB]
theorem fdB_l1 (c : SBk) : (fdB cl sz f1 f2 t1 t2 ax ay aw ah hv jl ++ [c]).length = 7 + (jl ++ [c]).length := by simp [fdB]; omega
end
theorem r_route_Find {X : Mem} {p : WP} {W : Wd} (hW : WorldOwn X.heap p W) (hg : W.Good) (hw : X.Wf) (hhb : X.hb ≤ X.hl) (cl sz f1 f2 t1 t2 ax ay aw ah B : Int) {N : Nat} (hN : N ≤ 20000) (hBr : -9223372036854775808 ≤ B ∧ B ≤ 9223372036854775807) (hcnt : ∀ l : List Cl, l.Nodup → (∀ c ∈ l, hasB ax ay aw ah c.1 c.2 = true ∧ W.stands cl sz c.1 c.2 = true) → l.length ≤ N) :
    ∃ H' u o v l c, RF tb f_route_Find [.ptr (.hp p.k 0) 0, .agg [.int .i64 cl, .int .i64 sz], .agg [.int .i64 f1, .int .i64 f2], .agg [.int .i64 t1, .int .i64 t2], .agg [.int .i64 ax, .int .i64 ay, .int .i64 aw, .int .i64 ah], .int .i64 B] X = some (.tup [.agg [.int .i64 o, v], .int .i64 c], (X.hp H').es (escMin X.esc u)) ∧ Keep [] X.heap H' ∧ Own cellF H' v l ∧ (∀ i ∈ slFp v, X.heap.length ≤ i) ∧
      ((o = 3 ∧ l = [] ∧ c = 0 ∧ B < N) ∨ WayRes W cl sz ax ay aw ah f1 f2 t1 t2 N o l c) := by
  rw [RF_go t_route_Find _ _ rfl, push_hp]
  generalize hH : X.heap = H at *
  have hHl : X.hl = H.length := by rw [← hH]; rfl
  simp (maxDischargeDepth := 8) only [go_sem, s_route_Find, hw, hH, r_cell_Has, r_class_Stands hW.at_ hg]
  have htk : H.take X.hl = H := by rw [hHl, List.take_length]
  have nope : Vd W cl sz ax ay aw ah f1 f2 t1 t2 = false → ∃ H' u o v l c, (some (.tup [.agg [.int .i64 2, .nils], .int .i64 0], X.hp (List.take X.hl H)) : Option (SV × Mem)) = some (.tup [.agg [.int .i64 o, v], .int .i64 c], (X.hp H').es (escMin X.esc u)) ∧ Keep [] H H' ∧ Own cellF H' v l ∧ (∀ i ∈ slFp v, H.length ≤ i) ∧
      ((o = 3 ∧ l = [] ∧ c = 0 ∧ B < N) ∨ WayRes W cl sz ax ay aw ah f1 f2 t1 t2 N o l c) := fun hv => by
    refine ⟨H, none, 2, .nils, [], 0, ?_, Keep.refl _ _, Own.nil _, by simp [slFp], .inr (.inl ⟨rfl, rfl, rfl, fun h => by rw [hv] at h; cases h⟩)⟩
    rw [htk]
    cases X with | mk a b c d e => cases e <;> rfl
  cases h1 : hasB ax ay aw ah f1 f2 with
  | false =>
    simp (maxDischargeDepth := 8) only [go_sem, hw]
    exact nope (by simp [Vd, h1])
  | true =>
    simp (maxDischargeDepth := 8) only [go_sem, hw, r_cell_Has, r_class_Stands hW.at_ hg]
    cases h2 : hasB ax ay aw ah t1 t2 with
    | false =>
      simp (maxDischargeDepth := 8) only [go_sem, hw]
      exact nope (by simp [Vd, h2])
    | true =>
      simp (maxDischargeDepth := 8) only [go_sem, hw, r_cell_Has, r_class_Stands hW.at_ hg]
      cases h3 : W.stands cl sz f1 f2 with
      | false =>
        simp (maxDischargeDepth := 8) only [go_sem, hw]
        exact nope (by simp [Vd, h3])
      | true =>
        simp (maxDischargeDepth := 8) only [go_sem, hw, r_cell_Has, r_class_Stands hW.at_ hg]
        cases h4 : W.stands cl sz t1 t2 with
        | false =>
          simp (maxDischargeDepth := 8) only [go_sem, hw]
          exact nope (by simp [Vd, h4])
        | true =>
          have hvd : Vd W cl sz ax ay aw ah f1 f2 t1 t2 = true := by simp [Vd, h1, h2, h3, h4]
          clear nope
          simp (maxDischargeDepth := 8) only [go_sem, hw]
          obtain ⟨HS, hHS⟩ : ∃ HS, H ++ [(0, SBk.cells true [.ptr (.hp p.k 0) 0, .int .i64 cl, .int .i64 sz, .int .i64 ax, .int .i64 ay, .int .i64 aw, .int .i64 ah, .nilm, .nilm])] = HS := ⟨_, rfl⟩
          have kS : Keep [] H HS := by rw [← hHS]; exact Keep.app _ _ _
          have lS : HS.length = H.length + 1 := by rw [← hHS, List.length_append]; rfl
          have bS : hget HS H.length 0 = some (.cells true (srC p cl sz ax ay aw ah .nilm .nilm)) := by rw [← hHS]; exact hget_new0 0 _
          rw [hHS]
          have hWS := hW.keep kS (by simp)
          have npk : H.length ∉ p.fp := fun hc => by have := hW.at_.lt _ hc; omega
          have hfn : FnV (X.dep + 1) (.fn f_route_Find_1 [] [.ptr (.st X.dep 1) 0]) := by
            refine ⟨rfl, by simp [SV.known], fun a b hab => ?_, fun a b hab => ?_⟩ <;> (simp only [SV.cell, SV.lv, SV.lvs, Bk.lv]; simp; omega)
          generalize hz : RF tb f_route_search_spread _ _ = z
          obtain ⟨b, H', u, M, K, hsp, k1, ⟨kc, kd, q1, q2, q3, q4, q5⟩, hmb, hres⟩ := r_route_search_spread (X := (X.hp HS).fr [.cells true [.int .i64 cl, .int .i64 sz], .cells true [.int .i64 f1, .int .i64 f2], .cells true [.int .i64 t1, .int .i64 t2], .cells true [.int .i64 ax, .int .i64 ay, .int .i64 aw, .int .i64 ah], .cells true [.int .i64 0, .nils], .cells true [.int .i64 2, .nils]] none)
            (ks := H.length) (h := fun a b => octC a b f1 f2) (rv := .fn f_route_Find_1 [] [.ptr (.st X.dep 1) 0]) (N := N) hWS hg npk bS (fr_wf (hp_wf hw) _ _) (by show X.hb ≤ H.length; omega)
            hfn (fun Y _ hl hY x y => r_route_Find_1 hY (by have := hl.1; rw [fr_dep] at this; exact this) (by rw [hl.2 X.dep 1 (by rw [fr_dep]; exact Nat.lt_succ_self _)]; simp (maxDischargeDepth := 8) only [go_sem]) x y) f1 f2 B false hN (fun a b => octC_in a b f1 f2) (octC_cons W cl sz ax ay aw ah f1 f2) hBr ⟨h2, h4⟩ hcnt
          · obtain rfl := hz.symm.trans hsp
            clear hsp hz
            change Keep [H.length] HS H' at k1
            change HS.length ≤ kc at q1
            change HS.length ≤ kd at q2
            simp (maxDischargeDepth := 8) only [go_sem, hw]
            have kHH : Keep [] H H' := kS.trans' k1 (fun m hm hl => by simp at hm; omega)
            cases b with
            | false =>
              rcases hres with ⟨hb, _⟩ | ⟨_, hBN⟩
              · cases hb
              simp (maxDischargeDepth := 8) only [go_sem, hw]
              have kb := (show Keep [] X.heap H' by rw [hH]; exact kHH).back0 (u := u)
              rw [hH] at kb
              exact ⟨_, u, 3, .nils, [], 0, rfl, kb, Own.nil _, by simp [slFp], .inl ⟨rfl, rfl, rfl, hBN⟩⟩
            | true =>
              rcases hres with ⟨_, Bo, hBo, F⟩ | ⟨hb, _⟩
              rotate_left
              · cases hb
              simp (maxDischargeDepth := 8) only [go_sem, hw, q3, srC, q4, assoc_cell, gm_getD, gm_some]
              have hE := edg_ok W cl sz (fun c => hasB ax ay aw ah c.1 c.2)
              cases hgf : gM M (f1, f2) with
              | none =>
                simp (maxDischargeDepth := 8) only [go_sem, hw, Option.getD_none, Option.isSome_none]
                have kb := (show Keep [] X.heap H' by rw [hH]; exact kHH).back0 (u := u)
                rw [hH] at kb
                refine ⟨_, u, 2, .nils, [], 0, rfl, kb, Own.nil _, by simp [slFp], .inr (.inl ⟨rfl, rfl, rfl, fun _ w hp => ?_⟩)⟩
                have hdn := F.all _ w hp (fun b hb => by have := (hBo b hb).2; rw [hgf] at this; cases this)
                obtain ⟨v, hv, _⟩ := F.dm _ hdn
                rw [hgf] at hv; cases hv
              | some v0 =>
                simp (maxDischargeDepth := 8) only [go_sem, hw, Option.getD_some, Option.isSome_some]
                have hoct : octC f1 f2 f1 f2 = 0 := octC_self f1 f2
                have hMn : Mn (okR W cl sz ax ay aw ah) (t1, t2) (f1, f2) v0 := by
                  have hdn := F.all _ v0 (F.p _ _ hgf) (fun b hb => by have := (hBo b hb).2; rw [hgf] at this; cases this; dsimp only; omega)
                  obtain ⟨v, hv, hm⟩ := F.dm _ hdn
                  rw [hgf] at hv; cases hv
                  exact hm
                have hv14 := hmb _ _ hgf
                have hv00 := (hMn.1.nn hE.dir).1
                refine KL_ind (R := fun z => ∃ H' u o v l c, fin [.cell 12 (some 2), .t 13] X z = some (.tup [.agg [.int .i64 o, v], .int .i64 c], (X.hp H').es (escMin X.esc u)) ∧ Keep [] H H' ∧ Own cellF H' v l ∧ (∀ i ∈ slFp v, H.length ≤ i) ∧ ((o = 3 ∧ l = [] ∧ c = 0 ∧ B < N) ∨ WayRes W cl sz ax ay aw ah f1 f2 t1 t2 N o l c)) (α := List Cl × Cl × Int × SV × Hp × Option Nat × List SBk × Option Cl) (fun q => q.2.2.1.toNat)
                  (fun q => match q.2.2.2.2.2.2.2 with
                    | none => [(9, .ptr (.st X.dep 2) 0), (12, .ptr (.st X.dep 4) 0), (15, .ptr (.hp H.length 0) 0), (16, .int .i64 v0), (18, .ptr (.st X.dep 6) 0), (19, .ptr (.st X.dep (7 + q.2.2.2.2.2.2.1.length)) 0)]
                    | some p => [(19, .ptr (.st X.dep (7 + q.2.2.2.2.2.2.1.length)) 0), (85, .agg [.int .i64 p.1, .int .i64 p.2]), (9, .ptr (.st X.dep 2) 0), (12, .ptr (.st X.dep 4) 0), (15, .ptr (.hp H.length 0) 0), (16, .int .i64 v0), (18, .ptr (.st X.dep 6) 0), (19, .ptr (.st X.dep (7 + (q.2.2.2.2.2.2.1.length - 1))) 0)])
                  (fun q => (X.hp q.2.2.2.2.1).fr (fdB cl sz f1 f2 t1 t2 ax ay aw ah q.2.2.2.1 q.2.2.2.2.2.2.1 ++ [.cells true [.int .i64 q.2.1.1, .int .i64 q.2.1.2]]) q.2.2.2.2.2.1)
                  (fun q => Own cellF q.2.2.2.2.1 q.2.2.2.1 q.1 ∧ (∀ i ∈ slFp q.2.2.2.1, H'.length ≤ i) ∧ Keep [] H' q.2.2.2.2.1 ∧ Mn (okR W cl sz ax ay aw ah) (t1, t2) q.2.1 q.2.2.1 ∧ octC q.2.1.1 q.2.1.2 f1 f2 + q.2.2.1 ≤ v0 ∧ wayC (okR W cl sz ax ay aw ah) (t1, t2) v0.toNat (f1, f2) = q.1 ++ wayC (okR W cl sz ax ay aw ah) (t1, t2) v0.toNat q.2.1 ∧ 10 * (q.1.length : Int) + q.2.2.1 ≤ v0) ?_ ([], (f1, f2), v0, .nils, H', u, [], none) ⟨Own.nil _, by simp [slFp], Keep.refl _ _, hMn, by dsimp only; omega, rfl, by simp⟩
                rintro ⟨acc, ⟨c1, c2⟩, vc, hv, Hc, e, jl, pc⟩ ⟨ow, fp, kc', hm, ho, hway, hlen⟩ ih
                dsimp only at ow fp kc' hm ho hway hlen ⊢
                have hk1 := k1.1
                have hk2 := kc'.1
                have hvc := (hm.1.nn hE.dir).1
                have s1 := ow.isSl cellF_even
                by_cases hct : ((c1, c2) : Cl) = (t1, t2)
                · simp only [Prod.mk.injEq] at hct
                  obtain ⟨rfl, rfl⟩ := hct
                  have kkh : Keep [] H Hc := kHH.trans kc'
                  have kb := (show Keep [] X.heap Hc by rw [hH]; exact kkh).back (h := hv.hx) (u := e)
                  rw [hH] at kb
                  have hz0 : vc = 0 := hm.uniq (mn_self hE.dir)
                  rcases pc with _ | pc
                  all_goals dsimp only
                  all_goals simp (maxDischargeDepth := 8) only [go_sem, hw, s1.l, s1.c, s1.k, s1.o, fdB_2, fdB_4, fdB_6, fdB_len, fdB_i, fdB_s4]
                  all_goals
                    refine ⟨_, e, 1, hv, acc, v0, rfl, kb, ow.congr fun i hi => ?_, fun i hi => by have := fp i hi; omega, .inr (.inr ⟨rfl, hvd, hMn, hv14, ?_⟩)⟩
                    · have := fp i hi
                      have h9 := hx_fp hi
                      rw [if_neg (by omega)]
                    · rw [hway, way_nil, List.append_nil]
                · have hne : (c1 == t1 && c2 == t2) = false := by
                    rw [Bool.eq_false_iff]
                    intro hc
                    simp only [Bool.and_eq_true, beq_iff_eq] at hc
                    exact hct (Prod.ext hc.1 hc.2)
                  have hh4 : ∀ c d, okR W cl sz ax ay aw ah c d = true → octC c.1 c.2 f1 f2 ≤ costP d + octC (mvC c d).1 (mvC c d).2 f1 f2 := octC_cons W cl sz ax ay aw ah f1 f2
                  have hnx : ∀ f e, RF tb f_route_search_next [.ptr (.hp H.length 0) 0, .agg [.int .i64 c1, .int .i64 c2]] ((X.hp Hc).fr f e) = some (.agg [.int .i64 (nxtC (okR W cl sz ax ay aw ah) (t1, t2) (c1, c2)).1, .int .i64 (nxtC (okR W cl sz ax ay aw ah) (t1, t2) (c1, c2)).2], (X.hp Hc).fr f e) := fun f e =>
                    r_route_search_next (X := (X.hp Hc).fr f e) (hW.keep (kHH.trans kc') (by simp)) hg (kc'.get q3 (by simp)) (fr_wf (hp_wf hw) _ _) (kc'.get q4 (by simp)) (kc'.get q5 (by simp)) F hE hh4 ⟨h2, h4⟩ hN hmb hm (fun b hb => by have h5 := (hBo b hb).2; rw [hgf] at h5; cases h5; exact (by dsimp only; omega)) hct
                  obtain ⟨d, n1, n2, n3, n4, n5⟩ := nxt_good hE hm hct
                  have hback := hE.back _ _ n2.1
                  have hcd := cost_pos n5
                  have ho2 := hh4 _ _ hback.1
                  rw [hback.2.1, hback.2.2, ← n3] at ho2
                  have hwc := way_cons hE (n := v0.toNat) hm (by omega) hct
                  generalize hnn : nxtC (okR W cl sz ax ay aw ah) (t1, t2) (c1, c2) = nn at *
                  obtain ⟨a1, a2⟩ := nn
                  obtain ⟨hv2, H2, ha, o1, o2, o3, o4⟩ := app1 ow fp kc' (by omega) X (by omega) a1 a2
                  have hvn := (n4.1.nn hE.dir).1
                  have fin2 := ih (acc ++ [(a1, a2)], (a1, a2), vc - costP d, hv2, H2, e, jl ++ [.cells true [.int .i64 a1, .int .i64 a2]], some (a1, a2)) ⟨o1, o3, o2, n4, by dsimp only at ho2 ⊢; omega, by dsimp only; rw [hway, hwc, List.append_assoc]; rfl, by dsimp only; rw [List.length_append, List.length_singleton]; omega⟩ (by dsimp only; omega)
                  dsimp only at fin2
                  rw [show (jl ++ [SBk.cells true [.int .i64 a1, .int .i64 a2]]).length - 1 = jl.length by simp] at fin2
                  rcases pc with _ | pc
                  all_goals dsimp only
                  all_goals simp (maxDischargeDepth := 8) only [go_sem, hw, hne, hnx, s1.l, s1.c, s1.k, s1.o, ha, o4.l, o4.c, o4.k, o4.o, fdB_2, fdB_4, fdB_6, fdB_len, fdB_i, fdB_si, fdB_s6, fdB_new, fdB_new', fdB_l1]
                  all_goals exact fin2
theorem nat_count : ∀ (n : Nat) (l : List Nat), l.Nodup → (∀ x ∈ l, x < n) → l.length ≤ n := by
  intro n
  induction n with
  | zero => intro l _ h; cases l with
    | nil => exact Nat.le_refl _
    | cons a l => exact absurd (h a List.mem_cons_self) (by omega)
  | succ n ih =>
    intro l hn h
    by_cases hm : n ∈ l
    · obtain ⟨a, b, rfl⟩ := List.append_of_mem hm
      have hs : (a ++ b).Nodup := List.Pairwise.sublist (List.Sublist.append (List.Sublist.refl a) (List.sublist_cons_self n b)) hn
      rw [List.nodup_append] at hn
      have := ih (a ++ b) hs (fun x hx => by
        rcases List.mem_append.1 hx with hx | hx
        · have h1 := h x (List.mem_append_left _ hx)
          have h2 := hn.2.2 x hx n List.mem_cons_self
          omega
        · have h1 := h x (List.mem_append_right _ (List.mem_cons_of_mem _ hx))
          have h2 := (List.nodup_cons.1 hn.2.1).1
          have h3 : x ≠ n := fun e => h2 (e ▸ hx)
          omega)
      simp only [List.length_append, List.length_cons] at this ⊢
      omega
    · have := ih l hn (fun x hx => by have h1 := h x hx; have h3 : x ≠ n := fun e => hm (e ▸ hx); omega)
      omega
theorem bx_count (r : Bx) (l : List Cl) (hn : l.Nodup) (h : ∀ c ∈ l, r.has c = true) : l.length ≤ r.n := by
  have := nat_count r.n (l.map r.ix) (by
    rw [List.Nodup, List.pairwise_map]
    refine List.Pairwise.imp_of_mem (fun {a b} ha hb hab e => hab ?_) hn
    have e1 := (Bx.ix_lt (h a ha)).2.1
    have e2 := (Bx.ix_lt (h b hb)).2.1
    rw [← e1, ← e2, e]) (fun x hx => by
    obtain ⟨c, hc, rfl⟩ := List.mem_map.1 hx
    exact (Bx.ix_lt (h c hc)).1)
  simpa using this
def wBx (W : Wd) : Bx := ⟨0, 0, W.w, W.h⟩
theorem stands_bx {W : Wd} {cl sz a b : Int} (h : W.stands cl sz a b = true) : (wBx W).has (a, b) = true := by
  have h1 := (stands_in h).2.2.2.1
  unfold Wd.has at h1
  have h2 := has_iff.1 h1
  exact Bx.has_iff.2 ⟨⟨h2.2.1, h2.2.2.1⟩, h2.2.2.2⟩
theorem wBx_n {W : Wd} (w1 : 1 ≤ W.w ∧ W.w ≤ 128) (h1 : 1 ≤ W.h ∧ W.h ≤ 128) : (wBx W).n ≤ 20000 := by
  show W.w.toNat * W.h.toNat ≤ 20000
  have := Nat.mul_le_mul (show W.w.toNat ≤ 128 by omega) (show W.h.toNat ≤ 128 by omega)
  omega
theorem cnt_w (W : Wd) (cl sz ax ay aw ah : Int) : ∀ l : List Cl, l.Nodup → (∀ c ∈ l, hasB ax ay aw ah c.1 c.2 = true ∧ W.stands cl sz c.1 c.2 = true) → l.length ≤ (wBx W).n := fun l hn h => bx_count (wBx W) l hn fun c hc => stands_bx (h c hc).2
/-- A way that is told with a budget that is enough. -/
theorem find_big {X : Mem} {p : WP} {W : Wd} {cl sz f1 f2 t1 t2 ax ay aw ah : Int} {z : Option (SV × Mem)} (hz : RF tb f_route_Find [.ptr (.hp p.k 0) 0, .agg [.int .i64 cl, .int .i64 sz], .agg [.int .i64 f1, .int .i64 f2], .agg [.int .i64 t1, .int .i64 t2], .agg [.int .i64 ax, .int .i64 ay, .int .i64 aw, .int .i64 ah], .int .i64 1048576] X = z)
    (hW : WorldOwn X.heap p W) (hg : W.Good) (hw : X.Wf) (hhb : X.hb ≤ X.hl) :
    ∃ H' u o v l c, z = some (.tup [.agg [.int .i64 o, v], .int .i64 c], (X.hp H').es (escMin X.esc u)) ∧ Keep [] X.heap H' ∧ Own cellF H' v l ∧ (∀ i ∈ slFp v, X.heap.length ≤ i) ∧ WayRes W cl sz ax ay aw ah f1 f2 t1 t2 (wBx W).n o l c := by
  have hN := wBx_n hW.at_.w1 hW.at_.h1
  obtain ⟨H', u, o, v, l, c, h1, h2, h3, h4, h5⟩ := r_route_Find hW hg hw hhb cl sz f1 f2 t1 t2 ax ay aw ah 1048576 hN (by decide) (cnt_w W cl sz ax ay aw ah)
  refine ⟨H', u, o, v, l, c, hz.symm.trans h1, h2, h3, h4, ?_⟩
  rcases h5 with ⟨_, _, _, h5⟩ | h5
  · omega
  · exact h5
section
variable {W : Wd} {cl sz ax ay aw ah f1 f2 t1 t2 : Int} {N : Nat} {o c : Int} {l : List Cl}
theorem WayRes.l_in (h : WayRes W cl sz ax ay aw ah f1 f2 t1 t2 N o l c) : 10 * (l.length : Int) ≤ 14 * (N : Int) := by
  rcases h with ⟨_, rfl, rfl, _⟩ | ⟨_, _, hm, h1, rfl⟩
  · simp; omega
  · have := way_len (edg_ok _ _ _ _) c.toNat hm (Nat.le_refl _)
    exact Int.le_trans this h1
theorem WayRes.found (h : WayRes W cl sz ax ay aw ah f1 f2 t1 t2 N 1 l c) : Vd W cl sz ax ay aw ah f1 f2 t1 t2 = true ∧ Mn (okR W cl sz ax ay aw ah) (t1, t2) (f1, f2) c ∧ l = wayC (okR W cl sz ax ay aw ah) (t1, t2) c.toNat (f1, f2) := by
  rcases h with ⟨h, _⟩ | ⟨_, h1, h2, _, h3⟩
  · omega
  · exact ⟨h1, h2, h3⟩
theorem WayRes.of_pth (h : WayRes W cl sz ax ay aw ah f1 f2 t1 t2 N o l c) (hv : Vd W cl sz ax ay aw ah f1 f2 t1 t2 = true) {v : Int} (hp : Pth (okR W cl sz ax ay aw ah) (t1, t2) (f1, f2) v) : o = 1 ∧ c ≤ v := by
  rcases h with ⟨_, _, _, h⟩ | ⟨h1, _, h2, _⟩
  · exact absurd hp (h hv v)
  · exact ⟨h1, h2.2 v hp⟩
end
theorem aw_vd : Vd (Wd.plain 3 3) 0 1 0 0 3 3 0 0 2 1 = true := by decide +kernel
theorem aw_k1 : okR (Wd.plain 3 3) 0 1 0 0 3 3 (2, 1) 6 = true := by decide +kernel
theorem aw_k2 : okR (Wd.plain 3 3) 0 1 0 0 3 3 (1, 0) 2 = true := by decide +kernel
theorem aw_k3 : okR (Wd.plain 3 3) 0 1 0 0 3 3 (0, 0) 0 = true := by decide +kernel
theorem aw_p1 : Pth (okR (Wd.plain 3 3) 0 1 0 0 3 3) (2, 1) (1, 0) 14 := Pth.step (s := (2, 1)) .nil aw_k1
theorem aw_p2 : Pth (okR (Wd.plain 3 3) 0 1 0 0 3 3) (2, 1) (0, 0) 24 := Pth.step aw_p1 aw_k2
theorem aw_m1 : Mn (okR (Wd.plain 3 3) 0 1 0 0 3 3) (2, 1) (1, 0) 14 := ⟨aw_p1, fun v hp => by
  have h := hp.lower (h := fun c => octC c.1 c.2 1 0) (octC_cons _ _ _ _ _ _ _ 1 0)
  have e1 : octC 2 1 1 0 = 14 := by decide +kernel
  have e2 : octC 1 0 1 0 = 0 := by decide +kernel
  dsimp only at h
  omega⟩
theorem aw_m2 : Mn (okR (Wd.plain 3 3) 0 1 0 0 3 3) (2, 1) (0, 0) 24 := ⟨aw_p2, fun v hp => by
  have h := hp.lower (h := fun c => octC c.1 c.2 0 0) (octC_cons _ _ _ _ _ _ _ 0 0)
  have e1 : octC 2 1 0 0 = 24 := by decide +kernel
  have e2 : octC 0 0 0 0 = 0 := by decide +kernel
  dsimp only at h
  omega⟩
theorem aw_way : wayC (okR (Wd.plain 3 3) 0 1 0 0 3 3) (2, 1) 24 (0, 0) = [(1, 0), (2, 1)] := by
  have hE := edg_ok (Wd.plain 3 3) 0 1 (fun c => hasB 0 0 3 3 c.1 c.2)
  have n1 : nxtC (okR (Wd.plain 3 3) 0 1 0 0 3 3) (2, 1) (0, 0) = (1, 0) := by
    have hf : firstD (Good (okR (Wd.plain 3 3) 0 1 0 0 3 3) (2, 1) (0, 0)) 8 = some 0 := firstD_first ⟨aw_k3, 14, aw_m1, aw_m2⟩ rfl (fun e he hlt => by simp [isDir] at he; omega)
    unfold nxtC
    rw [hf]
    rfl
  have n2 : nxtC (okR (Wd.plain 3 3) 0 1 0 0 3 3) (2, 1) (1, 0) = (2, 1) := by
    obtain ⟨d, _, _, _, hm, hd⟩ := nxt_good hE aw_m1 (by decide)
    have hc := cost_pos hd
    have hn := hm.1.nn hE.dir
    by_cases e : nxtC (okR (Wd.plain 3 3) 0 1 0 0 3 3) (2, 1) (1, 0) = (2, 1)
    · exact e
    · have := hn.2 e
      omega
  rw [way_cons hE aw_m2 (by decide) (by decide), n1, way_cons hE aw_m1 (by decide) (by decide), n2, way_nil]
theorem r_law10_awake (X : Mem) (hw : X.Wf) (hhb : X.hb ≤ X.hl) : ∃ H' u, RF tb f_law10_awake [] X = some (.bool true, (X.hp H').es (escMin X.esc u)) ∧ Keep [] X.heap H' := by
  rw [RF_go t_law10_awake _ _ rfl, push_hp]
  generalize hH : X.heap = H
  have hHl : X.hl = H.length := by rw [← hH]; rfl
  obtain ⟨H1, hH1⟩ : ∃ H1, H ++ [(0, SBk.cells true (List.replicate 9 [SV.int IntKind.u8 0]).flatten)] = H1 := ⟨_, rfl⟩
  have own : Own byteF H1 (.sl (.hp H.length 0) 0 9 (some 9) 1) (List.replicate 9 0) := by rw [← hH1]; exact mkslV_own byteF_even H 0 9
  have k1 : Keep [] H H1 := by rw [← hH1]; exact Keep.app _ _ _
  have hn := r_grid_New (X := (X.hp H1).fr [] none) (bl := []) (own.lies byteF_even) (LiesD.nil bldF _) (by decide) (fr_wf (hp_wf hw) _ _) (by show X.hb ≤ H1.length; have := k1.1; omega) 3 3
  rw [plain33] at hn
  obtain ⟨H2, u, p, h1, hO, k2, hF⟩ := hn
  change Keep [] H1 H2 at k2
  have hg := plain_good 3 3
  simp (maxDischargeDepth := 8) only [go_sem, s_law10_awake, hw, hH, show (9 : Int) ≤ (two48 : Int) from by decide, hH1, h1]
  generalize hz : RF tb f_route_Find _ _ = z
  have hl1 := k1.1
  have hl2 := k2.1
  have hcn := cnt_w (Wd.plain 3 3) 0 1 0 0 3 3
  obtain ⟨H3, u3, o, v, l, c, rfl, k3, ow, fp, hres⟩ : ∃ H' u' o v l c, z = some (.tup [.agg [.int .i64 o, v], .int .i64 c], ((X.hp H').fr [] (escMin (escMin none u) u'))) ∧ Keep [] H2 H' ∧ Own cellF H' v l ∧ (∀ i ∈ slFp v, H2.length ≤ i) ∧ WayRes (Wd.plain 3 3) 0 1 0 0 3 3 0 0 2 1 9 o l c := by
    obtain ⟨H', u', o, v, l, c, q1, q2, q3, q4, q5⟩ := r_route_Find (X := (X.hp H2).fr [] (escMin none u)) hO hg (fr_wf (hp_wf hw) _ _) (by show X.hb ≤ H2.length; omega) 0 1 0 0 2 1 0 0 3 3 9 (N := 9) (by decide) (by decide) hcn
    refine ⟨H', u', o, v, l, c, hz.symm.trans q1, q2, q3, q4, ?_⟩
    rcases q5 with ⟨_, _, _, q5⟩ | q5
    · exact absurd q5 (by decide)
    · exact q5
  obtain ⟨rfl, hc⟩ := hres.of_pth aw_vd aw_p2
  obtain ⟨-, hm, hl⟩ := hres.found
  obtain rfl := hm.uniq aw_m2
  rw [show (24 : Int).toNat = 24 from rfl, aw_way] at hl
  subst hl
  have s1 := ow.isSl cellF_even
  have ll := ow.lies cellF_even
  simp (maxDischargeDepth := 8) only [go_sem, hw, s1.l, s1.c, s1.k, s1.o, show ((0 : Int) == 0) = true from rfl, show ((1 : Int) == 1) = true from rfl, show ((24 : Int) == 24) = true from rfl, ll.len, ll.iaddrC0 (by decide), ll.loadC0 (a := (1, 0)) rfl]
  exact ⟨_, _, rfl, by rw [← hH] at k1 ⊢; exact ((k1.trans k2).trans k3).back0⟩
theorem aw10 {X : Mem} {z : Option (SV × Mem)} (hz : RF tb f_law10_awake [] X = z) (hw : X.Wf) (hhb : X.hb ≤ X.hl) : ∃ H' u, z = some (.bool true, (X.hp H').es (escMin X.esc u)) ∧ Keep [] X.heap H' := by
  rw [← hz]
  exact r_law10_awake X hw hhb
abbrev askV (cl sz f1 f2 t1 t2 ax ay aw ah B : Int) : SV := .agg [.int .i64 cl, .int .i64 sz, .int .i64 f1, .int .i64 f2, .int .i64 t1, .int .i64 t2, .int .i64 ax, .int .i64 ay, .int .i64 aw, .int .i64 ah, .int .i64 B]
theorem dirR_goes (x y a b : Int) : ∀ n, dirR x y a b n < 0 ∨ goes x y a b (dirR x y a b n) = true
  | 0 => .inl (show (-1 : Int) < 0 by decide)
  | n + 1 => by
    simp only [dirR]
    split
    · exact .inr ‹_›
    · exact dirR_goes x y a b n
theorem step_adj {W : Wd} {cl sz x y a b : Int} (h : W.steps cl sz x y (dirR x y a b 8) = true) :
    0 ≤ dirR x y a b 8 ∧ stepOk x y (dirR x y a b 8) = true ∧ x + turnX (dirR x y a b 8) = a ∧ y + turnY (dirR x y a b 8) = b ∧ W.stands cl sz x y = true ∧ W.stands cl sz a b = true := by
  rcases dirR_goes x y a b 8 with h1 | h1
  · rw [steps_neg W cl sz x y h1] at h; cases h
  · generalize dirR x y a b 8 = d at h h1
    simp only [goes, Bool.and_eq_true, decide_eq_true_eq] at h1
    obtain ⟨h2, rfl, rfl⟩ := h1
    have h3 := isDir_in (step_in h2).1
    simp only [Wd.steps, Bool.and_eq_true] at h
    exact ⟨h3.1, h2, rfl, rfl, h.1.1.2, h.1.2⟩
def endL (x y : Int) : List (Int × Int) → Int × Int
  | [] => (x, y)
  | c :: l => endL c.1 c.2 l
/-- Distance and cost along a legal way. -/
theorem apt_step {x y d a b : Int} : apt x y a b ≤ 1 + apt (x + turnX d) (y + turnY d) a b := by
  have h := turn_lo d
  have h1 := absJ_in (x - a)
  have h2 := absJ_in (y - b)
  have h3 := absJ_in (x + turnX d - a)
  have h4 := absJ_in (y + turnY d - b)
  have h5 := mxI_eq (absJ (x - a)) (absJ (y - b))
  have h6 := mxI_eq (absJ (x + turnX d - a)) (absJ (y + turnY d - b))
  unfold apt
  omega
theorem oct_step {x y d a b : Int} (hd : isDir d = true) : octD (absJ (x - a)) (absJ (y - b)) ≤ costP d + octD (absJ (x + turnX d - a)) (absJ (y + turnY d - b)) := by
  have h1 := absJ_in (x - a)
  have h2 := absJ_in (y - b)
  have h3 := absJ_in (x + turnX d - a)
  have h4 := absJ_in (y + turnY d - b)
  have h5 := mxI_eq (absJ (x - a)) (absJ (y - b))
  have h6 := mxI_eq (absJ (x + turnX d - a)) (absJ (y + turnY d - b))
  have h7 := mnI_eq (absJ (x - a)) (absJ (y - b))
  have h8 := mnI_eq (absJ (x + turnX d - a)) (absJ (y + turnY d - b))
  have hs : (turnX d = 0 ∨ turnY d = 0) ∧ (-1 ≤ turnX d ∧ turnX d ≤ 1 ∧ -1 ≤ turnY d ∧ turnY d ≤ 1) ∧ costP d = 10 ∨ (-1 ≤ turnX d ∧ turnX d ≤ 1 ∧ -1 ≤ turnY d ∧ turnY d ≤ 1) ∧ costP d = 14 := by
    rcases dir8 hd with rfl | rfl | rfl | rfl | rfl | rfl | rfl | rfl <;> decide
  unfold octD
  omega
theorem legal_far {W : Wd} {cl sz : Int} : ∀ (l : List (Int × Int)) (x y : Int), W.legal cl sz x y l = true → apt x y (endL x y l).1 (endL x y l).2 ≤ l.length ∧ W.stands cl sz (endL x y l).1 (endL x y l).2 = true ∧
    ∀ n, n + octD (absJ (x - (endL x y l).1)) (absJ (y - (endL x y l).2)) ≤ costGo x y n l ∧ n ≤ costGo x y n l
  | [], x, y, h => by
    simp only [Wd.legal, Bool.and_eq_true] at h
    refine ⟨by simp [endL, apt_self], h.1, fun n => ?_⟩
    simp [endL, costGo, octD, absJ, mxI, mnI]
  | c :: l, x, y, h => by
    simp only [Wd.legal, Wd.legalGo, Bool.and_eq_true] at h
    have h3 := step_adj h.2.1
    obtain ⟨i1, i2, i3⟩ := legal_far l c.1 c.2 (by simp only [Wd.legal, Bool.and_eq_true]; exact ⟨h3.2.2.2.2.2, h.2.2⟩)
    have h4 := @apt_step x y (dirR x y c.1 c.2 8) (endL c.1 c.2 l).1 (endL c.1 c.2 l).2
    have h5 := @oct_step x y (dirR x y c.1 c.2 8) (endL c.1 c.2 l).1 (endL c.1 c.2 l).2 (step_in h3.2.1).1
    rw [h3.2.2.1, h3.2.2.2.1] at h4 h5
    simp only [endL, List.length_cons, Int.natCast_succ]
    refine ⟨by omega, i2, fun n => ?_⟩
    simp only [costGo]
    rw [if_neg (by omega)]
    have := i3 (n + costP (dirR x y c.1 c.2 8))
    have := cost_in (dirR x y c.1 c.2 8)
    omega
/-- The farthest cell that a line leads to. -/
def Wd.best (W : Wd) (cl sz x y : Int) (l : List (Int × Int)) : Nat → Nat
  | 0 => 0
  | n + 1 => match l[n]? with
    | some c => if W.legal cl sz x y (lineP x y c.1 c.2) then n + 1 else W.best cl sz x y l n
    | none => W.best cl sz x y l n
theorem way_step {W : Wd} {cl sz ax ay aw ah t1 t2 x y v : Int} (hm : Mn (okR W cl sz ax ay aw ah) (t1, t2) (x, y) v) (hc : ((x, y) : Cl) ≠ (t1, t2)) {n : Nat} (hn : v.toNat ≤ n) :
    ∃ a b d, wayC (okR W cl sz ax ay aw ah) (t1, t2) n (x, y) = (a, b) :: wayC (okR W cl sz ax ay aw ah) (t1, t2) n (a, b) ∧ dirR x y a b 8 = d ∧ W.steps cl sz x y d = true ∧ (10 ≤ costP d ∧ costP d ≤ 14) ∧ Mn (okR W cl sz ax ay aw ah) (t1, t2) (a, b) (v - costP d) ∧ hasB ax ay aw ah a b = true := by
  have hE := edg_ok W cl sz (fun c => hasB ax ay aw ah c.1 c.2)
  obtain ⟨d, _, hgd, he, hm', hd⟩ := nxt_good hE hm hc
  have hk := hgd.1
  simp only [okR, okS, Bool.and_eq_true] at hk
  have hw := way_cons hE hm hn hc
  rw [he] at hw hm'
  exact ⟨x + turnX d, y + turnY d, d, hw, dirR_step (steps_dir hk.1.2), hk.1.2, cost_pos hd, hm', hk.2⟩
theorem best_law {W : Wd} {cl sz ax ay aw ah f1 f2 t1 t2 : Int} {N : Nat} {o1 o2 c1 c2 : Int} {l1 l2 : List Cl} (h1 : WayRes W cl sz ax ay aw ah f1 f2 t1 t2 N o1 l1 c1) (h2 : WayRes W cl sz ax ay aw ah t1 t2 f1 f2 N o2 l2 c2) : o1 = o2 ∧ c1 = c2 := by
  have hE := edg_ok W cl sz (fun c => hasB ax ay aw ah c.1 c.2)
  have hv : Vd W cl sz ax ay aw ah f1 f2 t1 t2 = true → Vd W cl sz ax ay aw ah t1 t2 f1 f2 = true := fun h => by
    simp only [Vd, Bool.and_eq_true] at h ⊢
    exact ⟨⟨⟨h.1.1.2, h.1.1.1⟩, h.2⟩, h.1.2⟩
  have hv' : Vd W cl sz ax ay aw ah t1 t2 f1 f2 = true → Vd W cl sz ax ay aw ah f1 f2 t1 t2 = true := fun h => by
    simp only [Vd, Bool.and_eq_true] at h ⊢
    exact ⟨⟨⟨h.1.1.2, h.1.1.1⟩, h.2⟩, h.1.2⟩
  rcases h1 with ⟨rfl, _, rfl, q1⟩ | ⟨rfl, v1, m1, _, _⟩
  · rcases h2 with ⟨rfl, _, rfl, _⟩ | ⟨rfl, v2, m2, _, _⟩
    · exact ⟨rfl, rfl⟩
    · exact absurd (m2.rev hE).1 (q1 (hv' v2) _)
  · rcases h2 with ⟨rfl, _, rfl, q2⟩ | ⟨rfl, v2, m2, _, _⟩
    · exact absurd (m1.rev hE).1 (q2 (hv v1) _)
    · exact ⟨rfl, m1.uniq (m2.rev hE)⟩
theorem way_all {W : Wd} {cl sz ax ay aw ah t1 t2 : Int} {n : Nat} : ∀ (k : Nat) {x y v : Int}, Mn (okR W cl sz ax ay aw ah) (t1, t2) (x, y) v → v.toNat ≤ k → v.toNat ≤ n →
    W.legalGo cl sz x y (wayC (okR W cl sz ax ay aw ah) (t1, t2) n (x, y)) = true ∧ endL x y (wayC (okR W cl sz ax ay aw ah) (t1, t2) n (x, y)) = (t1, t2) ∧ (∀ j, costGo x y j (wayC (okR W cl sz ax ay aw ah) (t1, t2) n (x, y)) = j + v) ∧ ∀ c ∈ wayC (okR W cl sz ax ay aw ah) (t1, t2) n (x, y), hasB ax ay aw ah c.1 c.2 = true := by
  intro k
  induction k with
  | zero =>
    intro x y v hm hk hn
    have hv := hm.1.nn (edg_ok W cl sz (fun c => hasB ax ay aw ah c.1 c.2)).dir
    by_cases hc : ((x, y) : Cl) = (t1, t2)
    · rw [hc] at hm ⊢
      have h0 := hm.uniq (mn_self (edg_ok W cl sz (fun c => hasB ax ay aw ah c.1 c.2)).dir)
      rw [way_nil]
      simp only [Prod.mk.injEq] at hc
      exact ⟨rfl, by rw [← hc.1, ← hc.2]; rfl, fun j => by rw [h0]; simp [costGo], by simp⟩
    · have := hv.2 hc; omega
  | succ k ih =>
    intro x y v hm hk hn
    have hv := hm.1.nn (edg_ok W cl sz (fun c => hasB ax ay aw ah c.1 c.2)).dir
    by_cases hc : ((x, y) : Cl) = (t1, t2)
    · rw [hc] at hm ⊢
      have h0 := hm.uniq (mn_self (edg_ok W cl sz (fun c => hasB ax ay aw ah c.1 c.2)).dir)
      rw [way_nil]
      simp only [Prod.mk.injEq] at hc
      exact ⟨rfl, by rw [← hc.1, ← hc.2]; rfl, fun j => by rw [h0]; simp [costGo], by simp⟩
    · obtain ⟨a, b, d, hw, hd, hs, hcd, hM, hb⟩ := way_step hm hc hn
      obtain ⟨i1, i2, i3, i4⟩ := ih hM (by omega) (by omega)
      have hdir : 0 ≤ d := by
        have h1 := steps_dir hs
        simp only [stepOk, isDir, Bool.and_eq_true, decide_eq_true_eq] at h1
        exact h1.1.1.1
      rw [hw]
      refine ⟨?_, i2, fun j => ?_, fun c hc => ?_⟩
      · simp only [Wd.legalGo, hd, hs, i1, Bool.and_self]
      · simp only [costGo, hd]
        rw [if_neg (by omega), i3]
        omega
      · rcases List.mem_cons.1 hc with rfl | hc
        · exact hb
        · exact i4 c hc
theorem endL_last : ∀ (l : List (Int × Int)) (x y : Int), 0 < l.length → l[l.length - 1]? = some (endL x y l)
  | [], _, _, h => by simp at h
  | [c], _, _, _ => rfl
  | c :: d :: l, x, y, _ => by
    have := endL_last (d :: l) c.1 c.2 (by simp)
    simp only [List.length_cons, Nat.add_sub_cancel] at this ⊢
    rw [List.getElem?_cons_succ, this]
    rfl
theorem r_law10_RouteBest {X : Mem} {tv bv : SV} {tiles : List Int} {bl : List Bld} (hm : MapIn X tv bv tiles bl) (hw : X.Wf) (hhb : X.hb ≤ X.hl) (w hh cl sz f1 f2 t1 t2 ax ay aw ah B : Int) : ∃ m', RF tb f_law10_RouteBest [.agg [.int .i64 w, .int .i64 hh, tv, bv], askV cl sz f1 f2 t1 t2 ax ay aw ah B] X = some (.bool true, m') := by
  rw [RF_go t_law10_RouteBest _ _ rfl, push_hp]
  simp (maxDischargeDepth := 8) only [go_sem, s_law10_RouteBest, askV, hw, hm.t.cell, hm.b.cell]
  generalize hz : RF tb f_law06_Both _ _ = z
  rcases both_of hz ⟨hm.t, hm.g, hm.b, hm.n⟩ (by simp (maxDischargeDepth := 8) only [go_sem, hw]) hhb with ⟨H', u, rfl, k⟩ | ⟨H', u, p, q, rfl, hO, hR, hg, k, -, -⟩
  · have hl : X.hb ≤ H'.length := by have := k.1; exact Nat.le_trans hhb this
    simp (maxDischargeDepth := 8) only [go_sem, hw]
    generalize hz : RF tb f_law10_awake _ _ = z
    obtain ⟨H', u, rfl, -⟩ := aw10 hz (by simp (maxDischargeDepth := 8) only [go_sem, hw]) hl
    simp (maxDischargeDepth := 8) only [go_sem, hw]
    exact ⟨_, rfl⟩
  · have hl : X.hb ≤ H'.length := by have := k.1; exact Nat.le_trans hhb this
    obtain ⟨hwm, hw1, hw2⟩ := wrap_mul hO.at_.w1 hO.at_.h1
    dsimp only at hwm
    simp (maxDischargeDepth := 8) only [go_sem, hw, hwm]
    cases hgt : decide (w * hh > 700) with
    | true =>
      simp (maxDischargeDepth := 8) only [go_sem, hw]
      generalize hz : RF tb f_law10_awake _ _ = z
      obtain ⟨H', u, rfl, -⟩ := aw10 hz (by simp (maxDischargeDepth := 8) only [go_sem, hw]) hl
      simp (maxDischargeDepth := 8) only [go_sem, hw]
      exact ⟨_, rfl⟩
    | false =>
      simp (maxDischargeDepth := 8) only [go_sem, hw]
      generalize hz : RF tb f_route_Find _ _ = z
      obtain ⟨H1, u1, o1, v1, l1, c1, rfl, k1, ow1, fp1, r1⟩ := find_big hz hO hg (by simp (maxDischargeDepth := 8) only [go_sem, hw]) hl
      change Keep [] H' H1 at k1
      have s1 := ow1.isSl cellF_even
      have hl1 : X.hb ≤ H1.length := Nat.le_trans hl k1.1
      have hN : (wBx ⟨w, hh, tiles, bl, []⟩).n ≤ 700 := by
        have e1 := hO.at_.w1
        have e2 := hO.at_.h1
        dsimp only at e1 e2
        have e3 := of_decide_eq_false hgt
        show w.toNat * hh.toNat ≤ 700
        have e4 : ((w.toNat * hh.toNat : Nat) : Int) = w * hh := by rw [Int.natCast_mul, Int.toNat_of_nonneg (by omega), Int.toNat_of_nonneg (by omega)]
        omega
      simp (maxDischargeDepth := 8) only [go_sem, hw, s1.l, s1.c, s1.k, s1.o]
      generalize hz : RF tb f_route_Find _ _ = z
      obtain ⟨H2, u2, o2, v2, l2, c2, rfl, k2, ow2, fp2, r2⟩ := find_big hz (hO.keep k1 (by simp)) hg (by simp (maxDischargeDepth := 8) only [go_sem, hw]) hl1
      change Keep [] H1 H2 at k2
      have s2 := ow2.isSl cellF_even
      have hl2 : X.hb ≤ H2.length := Nat.le_trans hl1 k2.1
      obtain ⟨rfl, rfl⟩ := best_law r1 r2
      have ll := (ow1.keep k2 (by simp)).lies cellF_even
      have hRr := ((hR.keep k1 (by simp)).keep k2 (by simp)).at_
      have hlen := r1.l_in
      simp (maxDischargeDepth := 8) only [go_sem, hw, s1.l, s1.c, s1.k, s1.o, s2.l, s2.c, s2.k, s2.o, show ∀ n : Int, (n != n) = false from fun n => by simp]
      rcases r1 with ⟨rfl, rfl, rfl, _⟩ | ⟨rfl, hv, hMn, hc14, hl1e⟩
      · simp (maxDischargeDepth := 8) only [go_sem, hw, s1.l, show ((2 : Int) != 1) = true from rfl, show ((2 : Int) == 2) = true from rfl, ll.len, show ((0 : Int) == 0) = true from rfl]
        generalize hz : RF tb f_law10_awake _ _ = z
        obtain ⟨H', u, rfl, -⟩ := aw10 hz (by simp (maxDischargeDepth := 8) only [go_sem, hw]) hl2
        simp (maxDischargeDepth := 8) only [go_sem, hw]
        exact ⟨_, rfl⟩
      · have hall := way_all (n := c1.toNat) c1.toNat hMn (Nat.le_refl _) (Nat.le_refl _)
        rw [← hl1e] at hall
        obtain ⟨g1, g2, g3, g4⟩ := hall
        have hst : Wd.stands ⟨w, hh, tiles, bl, []⟩ cl sz f1 f2 = true := by
          simp only [Vd, Bool.and_eq_true] at hv
          exact hv.1.2
        have hleg : Wd.legal ⟨w, hh, tiles, bl, []⟩ cl sz f1 f2 l1 = true := by simp only [Wd.legal, hst, g1, Bool.and_self]
        simp (maxDischargeDepth := 8) only [go_sem, hw, s1.l, show ((1 : Int) != 1) = false from rfl]
        rw [KL_keep _ _ _ (by simp (maxDischargeDepth := 8) only [go_sem])]
        simp (maxDischargeDepth := 8) only [go_sem]
        generalize escMin (escMin u u1) u2 = e0
        refine KL_ind (R := fun z => ∃ m', fin [.t 4] X z = some (.bool true, m')) (α := Nat) (fun i => l1.length - i)
          (fun i => [(3, .ptr (.st X.dep 1) 0), (6, .ptr (.hp q.k 0) 0), (8, .ptr (.st X.dep 2) 0), (9, .int .i64 c1), (12, .int .i64 (i : Int))])
          (fun _ => (X.hp H2).fr [.cells true [.int .i64 w, .int .i64 hh, tv, bv], .cells true [.int .i64 cl, .int .i64 sz, .int .i64 f1, .int .i64 f2, .int .i64 t1, .int .i64 t2, .int .i64 ax, .int .i64 ay, .int .i64 aw, .int .i64 ah, .int .i64 B], .cells true [.int .i64 1, v1], .cells true [.int .i64 1, v2]] e0)
          (fun i => i ≤ l1.length) ?_ 0 (Nat.zero_le _)
        intro i hi ih
        try dsimp only at hi ⊢
        simp (maxDischargeDepth := 8) only [go_sem, hw, s1.l, ll.len]
        by_cases hlt : i < l1.length
        · have hel : l1[i]? = some l1[i] := List.getElem?_eq_getElem hlt
          have hmem := g4 _ (List.getElem_mem hlt)
          generalize l1[i] = cc at hel hmem
          obtain ⟨a, b⟩ := cc
          dsimp only at hmem
          simp (maxDischargeDepth := 8) only [go_sem, show decide ((i : Int) < (l1.length : Int)) = true from decide_eq_true (by omega), hw, s1.l, ll.iaddrC hlt, ll.loadC hel, r_ref03_Has, hmem, wrap_succ (show i ≤ 4611686018427387903 by omega)]
          rw [KL_keep _ _ _ (by simp (maxDischargeDepth := 8) only [go_sem])]
          simp (maxDischargeDepth := 8) only [go_sem]
          exact ih (i + 1) (by omega) (by omega)
        · obtain rfl : i = l1.length := by omega
          have hcl : costL f1 f2 l1 = c1 := by
            rw [costL, if_neg (by omega), g3 0]; omega
          have hoct : octJ f1 f2 t1 t2 ≤ c1 := by
            have h1 := (legal_far l1 f1 f2 hleg).2.2 0
            rw [g2, g3 0] at h1
            unfold octJ iB
            split <;> (dsimp only at h1; omega)
          simp (maxDischargeDepth := 8) only [go_sem, show decide ((l1.length : Int) < (l1.length : Int)) = false from decide_eq_false (by omega), hw, s1.l, ll.len]
          by_cases h0 : 0 < l1.length
          · have hlast := endL_last l1 f1 f2 h0
            rw [g2] at hlast
            have wl1 : IntKind.wrap .i64 ((l1.length : Int) - 1) = ((l1.length - 1 : Nat) : Int) := by rw [wrap_small (by omega) (by omega)]; omega
            simp (maxDischargeDepth := 8) only [go_sem, show decide ((l1.length : Int) > 0) = true from decide_eq_true (by omega), hw, s1.l, ll.len, wl1, ll.iaddrC (show l1.length - 1 < l1.length by omega), ll.loadC hlast, r_ref06_Legal hRr (fun _ _ => rfl) hg ll (by simp only [two48]; omega), hleg, r_ref06_Cost ll, hcl, r_ref03_Octile, show ∀ n : Int, (n == n) = true from fun n => by simp, show decide (c1 ≥ octJ f1 f2 t1 t2) = true from decide_eq_true hoct]
            generalize hz : RF tb f_law10_awake _ _ = z
            obtain ⟨H', u, rfl, -⟩ := aw10 hz (by simp (maxDischargeDepth := 8) only [go_sem, hw]) hl2
            simp (maxDischargeDepth := 8) only [go_sem, hw]
            exact ⟨_, rfl⟩
          · obtain rfl : l1 = [] := List.length_eq_zero_iff.1 (by omega)
            have g2 : (f1, f2) = (t1, t2) := g2
            simp only [Prod.mk.injEq] at g2
            obtain ⟨rfl, rfl⟩ := g2
            simp (maxDischargeDepth := 8) only [go_sem, show decide (((([] : List (Int × Int)).length : Nat) : Int) > 0) = false from rfl, show decide ((0 : Int) > 0) = false from rfl, hw, s1.l, ll.len, r_ref06_Legal hRr (fun _ _ => rfl) hg ll (by decide), hleg, r_ref06_Cost ll, hcl, r_ref03_Octile, show ∀ n : Int, (n == n) = true from fun n => by simp, show decide (c1 ≥ octJ f1 f2 f1 f2) = true from decide_eq_true hoct]
            generalize hz : RF tb f_law10_awake _ _ = z
            obtain ⟨H', u, rfl, -⟩ := aw10 hz (by simp (maxDischargeDepth := 8) only [go_sem, hw]) hl2
            simp (maxDischargeDepth := 8) only [go_sem, hw]
            exact ⟨_, rfl⟩
section
open Go.RowKit Go.WideShapes
abbrev AskT := (Int × Int) × (Int × Int) × (Int × Int) × ((Int × Int) × Int × Int) × Int
abbrev askA (b : AskT) : SV := askV b.1.1 b.1.2 b.2.1.1 b.2.1.2 b.2.2.1.1 b.2.2.1.2 b.2.2.2.1.1.1 b.2.2.2.1.1.2 b.2.2.2.1.2.1 b.2.2.2.1.2.2 b.2.2.2.2
end
section
open Go.RowKit Go.WideShapes
theorem law10_RouteBest {P : Program} {e e' : TypeId} {okB : Bl' → Prop} (a : MT) (b : AskT) (h1 : slOk P e (inR .u8) a.2.2.1) (h2 : slOk P e' okB a.2.2.2) (hB : P.bytesOf e' = 40) {n0 n1 : In} (e0 : n0.map (·.2) = rdM.blks a 0) : ∃ m', RF tb f_law10_RouteBest [.agg (rdM.cells a 0), askA b] (In.mem ([] ++ n0 ++ n1)) = some (.bool true, m') := by
  rw [rdM_blks] at e0
  rw [rdM_cells]
  exact r_law10_RouteBest (mapIn_of (pre := []) h1 h2 hB e0) (In.wf _) (Nat.zero_le _) _ _ _ _ _ _ _ _ _ _ _ _ _
end
end Go.Sh.T
