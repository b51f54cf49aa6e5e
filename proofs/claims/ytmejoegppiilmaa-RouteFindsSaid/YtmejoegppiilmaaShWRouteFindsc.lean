import Derived.Test.YtmejoegppiilmaaShWRouteFindsb
import Derived.Test.YtmejoegppiilmaaShArg
set_option linter.all false
set_option linter.unusedVariables false
set_option linter.unusedSimpArgs false
set_option autoImplicit false
namespace Go.Sh.T
open Go.Sh
set_option maxHeartbeats 8000000
set_option maxRecDepth 20000
theorem wrapu_small {x : Int} (h1 : 0 ≤ x) (h2 : x ≤ 18446744073709551615) : IntKind.wrap .u64 x = x := by
  simp only [IntKind.wrap, IntKind.bits, IntKind.signed]
  simp
  omega
theorem and32 {x : Int} (h1 : 0 ≤ x) (h2 : x < 4294967296) : ibits .and .u64 x 4294967295 = some x := by
  obtain ⟨n, rfl⟩ := Int.eq_ofNat_of_zero_le h1
  have e1 : (BitVec.ofInt (IntKind.bits .u64) (n : Int)).toNat = n := by
    simp only [IntKind.bits, BitVec.toNat_ofInt]
    omega
  have e2 : (BitVec.ofInt (IntKind.bits .u64) 4294967295).toNat = 4294967295 := by decide
  simp only [ibits]
  rw [BitVec.toNat_and, e1, e2]
  have e3 : n &&& 4294967295 = n % 4294967296 := Nat.and_two_pow_sub_one_eq_mod n 32
  rw [e3, Nat.mod_eq_of_lt (by omega)]
  exact congrArg some (wrapu_small (by omega) (by omega))
theorem shr32 {x : Int} (h1 : 0 ≤ x) (h2 : x < 4294967296) : Int.fdiv x (2 ^ min 32 64) = 0 := by
  have e : (2 ^ min 32 64 : Int) = 4294967296 := by decide
  rw [e, Int.fdiv_eq_ediv_of_nonneg _ (by omega)]
  omega
theorem r_math_bits_Mul64 (m : Mem) {x y : Int} (hx : 0 ≤ x ∧ x < 4194304) (hy : 0 ≤ y ∧ y < 1024) : RF tb f_math_bits_Mul64 [.int .u64 x, .int .u64 y] m = some (.tup [.int .u64 0, .int .u64 (x * y)], m) := by
  have h0 : 0 ≤ x * y := Int.mul_nonneg hx.1 hy.1
  have h1 : x * y ≤ 4194303 * 1023 := Int.mul_le_mul (by omega) (by omega) (by omega) (by omega)
  rw [RF_go t_math_bits_Mul64 _ _ rfl]
  have w0 : IntKind.wrap .u64 0 = 0 := rfl
  simp (maxDischargeDepth := 8) only [go_sem, s_math_bits_Mul64, and32 hx.1 (show x < 4294967296 by omega), and32 hy.1 (show y < 4294967296 by omega), shr32 hx.1 (show x < 4294967296 by omega), shr32 hy.1 (show y < 4294967296 by omega), wrapu_small h0 (by omega), shr32 h0 (show x * y < 4294967296 by omega),
    Int.zero_mul, Int.mul_zero, Int.zero_add, Int.add_zero, w0, and32 (x := 0) (by omega) (by omega), shr32 (x := 0) (by omega) (by omega)]
theorem r_fixed_amount (m : Mem) (a : Int) (h : -4611686018427387904 ≤ a ∧ a ≤ 4611686018427387904) : RF tb f_fixed_amount [.int .i64 a] m = some (.int .u64 (mxI a (-a)), m) := by
  rw [RF_go t_fixed_amount _ _ rfl]
  simp (maxDischargeDepth := 8) only [go_sem, s_fixed_amount]
  repeat' ((first | rw [KG_bool] | rw [KC_bool]); split <;> rename_i h <;> (try simp only [Bool.not_eq_true, Bool.not_not, Bool.not_eq_eq_eq_not, Bool.not_true, Bool.not_false] at h) <;> simp (maxDischargeDepth := 8) only [go_sem, h])
  all_goals simp only [decide_eq_true_eq, decide_eq_false_iff_not] at *
  all_goals simp only [mxI, IntKind.wrap, IntKind.bits, IntKind.signed]
  all_goals simp
  all_goals (repeat' split) <;> omega
theorem r_fixed_signed (m : Mem) (n : Int) (h : 0 ≤ n ∧ n < 4611686018427387904) : RF tb f_fixed_signed [.int .u64 n, .bool false] m = some (.tup [.int .i64 n, .bool true], m) := by
  rw [RF_go t_fixed_signed _ _ rfl]
  simp (maxDischargeDepth := 8) only [go_sem, s_fixed_signed, show decide (n < 9223372036854775808) = true from decide_eq_true (by omega), wrap_small (x := n) (by omega) (by omega)]
/-- The octile distance of two differences. -/
def octI (x y : Int) : Int := if x < y then 14 * x + 10 * (y - x) else 14 * y + 10 * (x - y)
theorem oct_in {x y : Int} (hx : 0 ≤ x ∧ x < 4194304) (hy : 0 ≤ y ∧ y < 4194304) : 0 ≤ octI x y ∧ octI x y ≤ 104857600 := by unfold octI; split <;> omega
theorem r_fixed_Octile (m : Mem) (a b : Int) (ha : -4194303 ≤ a ∧ a ≤ 4194303) (hb : -4194303 ≤ b ∧ b ≤ 4194303) : RF tb f_fixed_Octile [.int .i64 a, .int .i64 b] m = some (.tup [.int .i64 (octI (mxI a (-a)) (mxI b (-b))), .bool true], m) := by
  have hx : 0 ≤ mxI a (-a) ∧ mxI a (-a) < 4194304 := by unfold mxI; split <;> omega
  have hy : 0 ≤ mxI b (-b) ∧ mxI b (-b) < 4194304 := by unfold mxI; split <;> omega
  rw [RF_go t_fixed_Octile _ _ rfl]
  simp (maxDischargeDepth := 8) only [go_sem, s_fixed_Octile, fun m => r_fixed_amount m a (by omega), fun m => r_fixed_amount m b (by omega)]
  generalize mxI a (-a) = p at *
  generalize mxI b (-b) = q at *
  have key : ∀ p q : Int, 0 ≤ q → q ≤ p → p < 4194304 → (∀ m, RF tb f_math_bits_Mul64 [.int .u64 q, .int .u64 14] m = some (.tup [.int .u64 0, .int .u64 (q * 14)], m)) ∧ (∀ m, RF tb f_math_bits_Mul64 [.int .u64 (IntKind.wrap .u64 (p - q)), .int .u64 10] m = some (.tup [.int .u64 0, .int .u64 ((p - q) * 10)], m)) ∧
      add64v (.int .u64 (q * 14)) (.int .u64 ((p - q) * 10)) (.int .u64 0) = some (.tup [.int .u64 (q * 14 + (p - q) * 10), .int .u64 0]) ∧ (∀ m, RF tb f_fixed_signed [.int .u64 (q * 14 + (p - q) * 10), .bool false] m = some (.tup [.int .i64 (q * 14 + (p - q) * 10), .bool true], m)) := by
    intro p q h1 h2 h3
    refine ⟨fun m => r_math_bits_Mul64 m (by omega) (by omega), fun m => ?_, ?_, fun m => r_fixed_signed m _ (by omega)⟩
    · rw [wrapu_small (by omega) (by omega)]
      exact r_math_bits_Mul64 m (by omega) (by omega)
    · simp only [add64v]
      rw [if_pos (by omega)]
      have e1 : (q * 14 + (p - q) * 10 + 0) % 18446744073709551616 = q * 14 + (p - q) * 10 := by omega
      have e2 : (q * 14 + (p - q) * 10 + 0) / 18446744073709551616 = 0 := by omega
      rw [e1, e2]
  by_cases hlt : p < q
  · obtain ⟨k1, k2, k3, k4⟩ := key q p hx.1 (by omega) hy.2
    have e : octI p q = p * 14 + (q - p) * 10 := by unfold octI; rw [if_pos hlt]; omega
    rw [e]
    simp (maxDischargeDepth := 8) only [go_sem, decide_eq_true hlt, k1, k2, k3, k4]
  · obtain ⟨k1, k2, k3, k4⟩ := key p q hy.1 (by omega) hx.2
    have e : octI p q = q * 14 + (p - q) * 10 := by unfold octI; rw [if_neg hlt]; omega
    rw [e]
    simp (maxDischargeDepth := 8) only [go_sem, decide_eq_false hlt, k1, k2, k3, k4]
def absI (a : Int) : Int := mxI a (-a)
theorem absI_eq (a : Int) : absI a = if a < 0 then -a else a := by unfold absI mxI; split <;> split <;> omega
def octC (x y a b : Int) : Int := iB (nearC x y && nearC a b) (octI (absI (x - a)) (absI (y - b)))
theorem r_cell_Octile (m : Mem) (hm : m.Wf) (x y a b : Int) : RF tb f_cell_Octile [.agg [.int .i64 x, .int .i64 y], .agg [.int .i64 a, .int .i64 b]] m = some (.int .i64 (octC x y a b), m) := by
  rw [RF_go t_cell_Octile _ _ rfl]
  simp (maxDischargeDepth := 8) only [go_sem, s_cell_Octile, hm, r_cell_Near]
  cases h1 : nearC x y with
  | false => simp (maxDischargeDepth := 8) only [go_sem]; simp [octC, h1, iB]
  | true =>
    simp (maxDischargeDepth := 8) only [go_sem, hm, r_cell_Near]
    cases h2 : nearC a b with
    | false => simp (maxDischargeDepth := 8) only [go_sem]; simp [octC, h1, h2, iB]
    | true =>
      have n1 := nearC_in h1
      have n2 := nearC_in h2
      have w1 : IntKind.wrap .i64 (x - a) = x - a := wrap_small (by omega) (by omega)
      have w2 : IntKind.wrap .i64 (y - b) = y - b := wrap_small (by omega) (by omega)
      have ho := oct_in (x := absI (x - a)) (y := absI (y - b)) (by rw [absI_eq]; split <;> omega) (by rw [absI_eq]; split <;> omega)
      have w3 : IntKind.wrap .i64 (octI (absI (x - a)) (absI (y - b))) = octI (absI (x - a)) (absI (y - b)) := wrap_small (by omega) (by omega)
      simp (maxDischargeDepth := 8) only [go_sem, hm, w1, w2, fun m => r_fixed_Octile m (x - a) (y - b) (by omega) (by omega)]
      simp only [absI] at w3
      simp [octC, h1, h2, iB, absI, w3]
theorem octC_in (x y a b : Int) : 0 ≤ octC x y a b ∧ octC x y a b ≤ 1000000000 := by
  unfold octC iB
  cases h : (nearC x y && nearC a b) with
  | false => simp
  | true =>
    simp only [Bool.and_eq_true] at h
    have n1 := nearC_in h.1
    have n2 := nearC_in h.2
    have := oct_in (x := absI (x - a)) (y := absI (y - b)) (by rw [absI_eq]; split <;> omega) (by rw [absI_eq]; split <;> omega)
    simp only [if_true] at *
    omega
theorem octC_self (x y : Int) : octC x y x y = 0 := by
  unfold octC iB
  rw [Int.sub_self, Int.sub_self]
  split <;> rfl
/-- One step on costs no less than it brings nearer. -/
theorem octC_step {x y d : Int} (h : stepOk x y d = true) (a b : Int) : octC x y a b ≤ costP d + octC (x + turnX d) (y + turnY d) a b := by
  have hs := step_in h
  unfold octC
  simp only [stepOk, Bool.and_eq_true] at h
  rw [h.1.2, h.2, Bool.true_and]
  unfold iB
  cases hn : nearC a b with
  | false => simp only [Bool.false_eq_true, if_false]; unfold costP; split; split <;> omega; omega
  | true =>
    simp only [if_true]
    have hd := h.1.1
    have hc : d = 0 ∨ d = 1 ∨ d = 2 ∨ d = 3 ∨ d = 4 ∨ d = 5 ∨ d = 6 ∨ d = 7 := by simp [isDir] at hd; omega
    rw [absI_eq, absI_eq, absI_eq, absI_eq]
    unfold octI
    rcases hc with rfl | rfl | rfl | rfl | rfl | rfl | rfl | rfl <;> simp only [costP, isDir, turnX, turnY] <;> simp <;> (repeat' split) <;> omega
theorem firstD_first {p : Int → Prop} {d : Int} (h : p d) (hd : isDir d = true) (hmin : ∀ e, isDir e = true → e < d → ¬ p e) : firstD p 8 = some d := by
  have hd' : 0 ≤ d ∧ d ≤ 7 := by simpa [isDir] using hd
  have key : ∀ n : Nat, n ≤ 8 → 8 - (n : Int) ≤ d → firstD p n = some d := by
    intro n
    induction n with
    | zero => intro _ h; omega
    | succ n ih =>
      intro h8 hn
      simp only [firstD]
      by_cases e : (8 : Int) - ((n + 1 : Nat) : Int) = d
      · rw [e, if_pos h]
      · rw [if_neg (hmin _ (by simp only [isDir, Bool.and_eq_true, decide_eq_true_eq]; omega) (by omega))]
        exact ih (by omega) (by omega)
  exact key 8 (Nat.le_refl _) (by omega)
abbrev neM (X : Mem) (ks : Nat) (c1 c2 r1 r2 : Int) (n0 : Nat) (st : LoopState) (pd : Option Jump) (H : Hp) : Mem :=
  (X.hp H).fr [.cells true [.ptr (.hp ks 0) 0], .cells true [.int .i64 c1, .int .i64 c2], .cells true [.int .i64 r1, .int .i64 r2],
    .loop ⟨st, pd, [(2, .ptr (.st X.dep 0) 0), (3, .ptr (.st X.dep 1) 0), (4, .ptr (.st X.dep 2) 0), (18, .fn f_class_Around_1 [] [.ptr (.hp (n0 + 2) 0) 0, .ptr (.hp n0 0) 0, .ptr (.hp (n0 + 1) 0) 0])], [19, 20], s_route_search_next_p1, s_route_search_next_p5⟩] none
theorem r_route_search_next {X : Mem} {ks kc kd : Nat} {p : WP} {W : Wd} (hW : WorldOwn X.heap p W) (hg : W.Good) {cl sz ax ay aw ah : Int} (hs : hget X.heap ks 0 = some (.cells true (srC p cl sz ax ay aw ah (.map (.hp kc 0)) (.map (.hp kd 0))))) (hw : X.Wf) {M : List (Cl × Int)} {K : List (Cl × Bool)} (hc : hget X.heap kc 0 = some (.map (alV cellW intV M))) (hd : hget X.heap kd 0 = some (.map (alV cellW boolV K)))
    {s : Cl} {h : Cl → Int} {Bo : Option Int} (F : SFin (okS W cl sz (fun c => hasB ax ay aw ah c.1 c.2)) s (gM M) (dK K) h Bo) (hE : Edg (okS W cl sz (fun c => hasB ax ay aw ah c.1 c.2))) (hh : ∀ c d, okS W cl sz (fun c => hasB ax ay aw ah c.1 c.2) c d = true → h c ≤ costP d + h (mvC c d)) (h0 : hasB ax ay aw ah s.1 s.2 = true ∧ W.stands cl sz s.1 s.2 = true) {N : Nat} (hN : N ≤ 20000) (hmb : ∀ c v, gM M c = some v → v ≤ 14 * (N : Int)) {c1 c2 v : Int} (hm : Mn (okS W cl sz (fun c => hasB ax ay aw ah c.1 c.2)) s (c1, c2) v) (hb : ∀ b, Bo = some b → v + h (c1, c2) ≤ b) (hcs : (c1, c2) ≠ s) :
    RF tb f_route_search_next [.ptr (.hp ks 0) 0, .agg [.int .i64 c1, .int .i64 c2]] X = some (.agg [.int .i64 (nxtC (okS W cl sz (fun c => hasB ax ay aw ah c.1 c.2)) s (c1, c2)).1, .int .i64 (nxtC (okS W cl sz (fun c => hasB ax ay aw ah c.1 c.2)) s (c1, c2)).2], X) := by
  rw [RF_go t_route_search_next _ _ rfl, push_hp]
  generalize hH : X.heap = H at *
  have hHl : X.hl = H.length := by rw [← hH]; rfl
  obtain ⟨ok, hok⟩ : ∃ ok, okS W cl sz (fun c => hasB ax ay aw ah c.1 c.2) = ok := ⟨_, rfl⟩
  have hpi : ∀ c v, Pth ok s c v → hasB ax ay aw ah c.1 c.2 = true ∧ W.stands cl sz c.1 c.2 = true := fun c v hp => by
    rw [← hok] at hp
    exact pth_in (s1 := s.1) (s2 := s.2) (inR := fun c => hasB ax ay aw ah c.1 c.2) h0 hp
  rw [hok] at F hE hh hm ⊢
  have dn : dK K (c1, c2) = true := F.all _ v hm.1 hb
  obtain ⟨v', g1, g2⟩ := F.dm _ dn
  obtain rfl := g2.uniq hm
  have hci := hpi _ _ hm.1
  have hv0 := (hm.1.nn hE.dir).1
  have hgood : ∀ d, W.steps cl sz c1 c2 d = true → (Good ok s (c1, c2) d ↔ dK K (c1 + turnX d, c2 + turnY d) = true ∧ ∃ w, gM M (c1 + turnX d, c2 + turnY d) = some w ∧ w + costP d = v') := by
    intro d hst
    cases hin : hasB ax ay aw ah (c1 + turnX d) (c2 + turnY d) with
    | true => exact fin_next F hE hh hm hb d (by rw [← hok]; simp only [okS, mvC, hci.1, hst, hin, Bool.and_self])
    | false =>
      constructor
      · rintro ⟨hk, _⟩
        rw [← hok] at hk
        simp only [okS, mvC, hci.1, hst, hin, Bool.and_false] at hk
        cases hk
      · rintro ⟨h1, w, h2, _⟩
        have := (hpi _ _ (F.p _ _ h2)).1
        dsimp only at this
        rw [hin] at this; cases this
  simp (maxDischargeDepth := 8) only [go_sem, s_route_search_next, hw, hH, hs, srC, r_class_Around]
  obtain ⟨HA, hHA⟩ : ∃ HA, H ++ [(0, SBk.cells true [.ptr (.hp p.k 0) 0]), (0, .cells true [.int .i64 cl, .int .i64 sz]), (0, .cells true [.int .i64 c1, .int .i64 c2])] = HA := ⟨_, rfl⟩
  have kA : Keep [] H HA := by rw [← hHA]; exact Keep.app _ _ _
  have lA : HA.length = H.length + 3 := by rw [← hHA, List.length_append]; rfl
  have a0 : hget HA H.length 0 = some (.cells true [.ptr (.hp p.k 0) 0]) := by rw [← hHA]; exact hget_new0 0 _
  have a1 : hget HA (H.length + 1) 0 = some (.cells true [.int .i64 cl, .int .i64 sz]) := by rw [← hHA]; exact hget_newi 1 0 _
  have a2 : hget HA (H.length + 2) 0 = some (.cells true [.int .i64 c1, .int .i64 c2]) := by rw [← hHA]; exact hget_newi 2 0 _
  rw [hHA]
  obtain ⟨HB, hHB⟩ : ∃ HB, HA ++ [(0, SBk.cells true [.int .i64 c1, .int .i64 c2]), (0, .cells true [.int .i64 0, .int .i64 0, .int .i64 W.w, .int .i64 W.h])] = HB := ⟨_, rfl⟩
  have kB : Keep [] HA HB := by rw [← hHB]; exact Keep.app _ _ _
  have lB : HB.length = HA.length + 2 := by rw [← hHB, List.length_append]; rfl
  have b4 : hget HB HA.length 0 = some (.cells true [.int .i64 c1, .int .i64 c2]) := by rw [← hHB]; exact hget_new0 0 _
  have b5 : hget HB (HA.length + 1) 0 = some (.cells true [.int .i64 0, .int .i64 0, .int .i64 W.w, .int .i64 W.h]) := by rw [← hHB]; exact hget_newi 1 0 _
  have kAB : Keep [] H HB := kA.trans kB
  have hsB := kAB.get hs (by simp)
  have hcB := kAB.get hc (by simp)
  have hdB := kAB.get hd (by simp)
  have hAr : ∀ r1 r2 st pd, ArAt (X.dep + 1) (H.length + 2) H.length (H.length + 1) HA.length p W cl sz c1 c2 (neM X ks c1 c2 r1 r2 H.length st pd HB) := fun r1 r2 st pd =>
    ⟨rfl, by simp (maxDischargeDepth := 8) only [go_sem, hw], kB.get a2 (by simp), kB.get a0 (by simp), kB.get a1 (by simp), (hW.keep kAB (by simp)).at_.sub (by simp (maxDischargeDepth := 8) only [go_sem]), b4, b5⟩
  generalize hz : RF tb f_class_Around_1 _ _ = z
  refine around_rangeZ (d := X.dep + 1) (p := p) hz hg cl sz c1 c2 (fun M1 j m u => u = none ∧ m = neM X ks c1 c2 0 0 H.length .ready none HB ∧ ∀ d, isDir d = true → d < 8 - (j : Int) → ¬ Good ok s (c1, c2) d) (fun M1 j m u => u = none ∧ ∃ d, isDir d = true ∧ firstD (Good ok s (c1, c2)) 8 = some d ∧ m = neM X ks c1 c2 (c1 + turnX d) (c2 + turnY d) H.length .done (some .ret) HB) (Nat.lt_succ_self _) ?_ ?_ ?_ ?_ ?_ ?_ ?_ ?_
  · have := hAr 0 0 .ready none
    rw [neM, ← hHB] at this
    exact this
  · exact (hW.keep kA (by simp)).at_.sub (by simp (maxDischargeDepth := 8) only [go_sem])
  · show H.length + 2 < HA.length; omega
  · show H.length < HA.length; omega
  · show H.length + 1 < HA.length; omega
  · refine ⟨rfl, ?_, fun d h1 h2 => ?_⟩
    · rw [neM, ← hHB]; try rfl
    · simp only [isDir, Bool.and_eq_true, decide_eq_true_eq] at h1; omega
  · rintro M1 j j' m u' hj hj8 hno hst - ⟨rfl, rfl, hng⟩
    generalize hdd : (8 : Int) - ((j' + 1 : Nat) : Int) = dd at *
    have hdir : isDir dd = true := by
      have h1 := steps_dir hst
      simp only [stepOk, Bool.and_eq_true] at h1
      exact h1.1.1
    have hcd := cost_pos hdir
    have hng2 : ∀ e, isDir e = true → e < dd → ¬ Good ok s (c1, c2) e := fun e he hlt => by
      by_cases h8 : e < 8 - (j : Int)
      · exact hng e he h8
      · rintro ⟨hk, _⟩
        have he' : 0 ≤ e ∧ e ≤ 7 := by simpa [isDir] using he
        have hi := hno (7 - e).toNat (by omega) (by omega)
        rw [show (8 : Int) - (((7 - e).toNat + 1 : Nat) : Int) = e by omega] at hi
        rw [← hok] at hk
        simp only [okS, hi, Bool.and_false, Bool.false_and] at hk
        cases hk
    have hgd := hgood dd hst
    by_cases hG : Good ok s (c1, c2) dd
    · obtain ⟨hk1, w, hk2, hk3⟩ := hgd.1 hG
      refine ⟨neM X ks c1 c2 (c1 + turnX dd) (c2 + turnY dd) H.length .done (some .ret) HB, none, false, ?_, hAr _ _ _ _, .inl rfl, fun h => (by cases h), fun _ => ⟨rfl, dd, hdir, firstD_first hG hdir hng2, rfl⟩⟩
      intro fs e
      have wb := hmb _ _ hk2
      have w0 := ((F.p _ _ hk2).nn hE.dir).1
      rw [RV_go (l := ⟨.ready, none, _, _, _, _⟩) _ _ _ (by simp (maxDischargeDepth := 8) only [go_sem, neM]; rfl) rfl rfl (by simp (maxDischargeDepth := 8) only [go_sem, neM, hw])]
      simp (maxDischargeDepth := 8) only [go_sem, neM, hw, hsB, srC, hcB, assoc_cell, gm_getD, gm_some, hk2, Option.isSome_some, Option.getD_some, hdB, dk_getD, hk1, r_cell_Cost, g1, hk3, wrap_small (x := v') (by omega) (by omega), shut_get]
    · refine ⟨neM X ks c1 c2 0 0 H.length .ready none HB, none, true, ?_, hAr _ _ _ _, .inl rfl, fun _ => ⟨rfl, rfl, fun d h1 h2 => ?_⟩, fun h => (by cases h)⟩
      · intro fs e
        rw [RV_go (l := ⟨.ready, none, _, _, _, _⟩) _ _ _ (by simp (maxDischargeDepth := 8) only [go_sem, neM]; rfl) rfl rfl (by simp (maxDischargeDepth := 8) only [go_sem, neM, hw])]
        cases hgm : gM M (c1 + turnX dd, c2 + turnY dd) with
        | none =>
          simp (maxDischargeDepth := 8) only [go_sem, neM, hw, hsB, srC, hcB, assoc_cell, gm_getD, gm_some, hgm, Option.isSome_none, hdB, dk_getD, r_cell_Cost, g1, Option.getD_some]
        | some w =>
          cases hdk : dK K (c1 + turnX dd, c2 + turnY dd) with
          | false => simp (maxDischargeDepth := 8) only [go_sem, neM, hw, hsB, srC, hcB, assoc_cell, gm_getD, gm_some, hgm, Option.isSome_some, hdB, dk_getD, hdk, r_cell_Cost, g1, Option.getD_some, shut_get]
          | true =>
            have wb := hmb _ _ hgm
            have w0 := ((F.p _ _ hgm).nn hE.dir).1
            have hne : (w + costP dd == v') = false := by
              rw [beq_eq_false_iff_ne]
              exact fun hc => hG (hgd.2 ⟨hdk, w, hgm, hc⟩)
            simp (maxDischargeDepth := 8) only [go_sem, neM, hw, hsB, srC, hcB, assoc_cell, gm_getD, gm_some, hgm, Option.isSome_some, hdB, dk_getD, hdk, r_cell_Cost, g1, Option.getD_some, shut_get, wrap_small (x := w + costP dd) (by omega) (by omega), hne]
      · by_cases e1 : d = dd
        · subst e1; exact hG
        · exact hng2 d h1 (by omega)
  · rintro M1 M' U rfl hz' - - (⟨j, hj8, hno, rfl, rfl, hng⟩ | ⟨j, hj8, rfl, d, hdir, hf, rfl⟩)
    · exfalso
      obtain ⟨d, hG⟩ := good_ex hE hm hcs
      have hdir := hE.dir _ _ hG.1
      have he' : 0 ≤ d ∧ d ≤ 7 := by simpa [isDir] using hdir
      by_cases h8 : d < 8 - (j : Int)
      · exact hng d hdir h8 hG
      · have hi := hno (7 - d).toNat (by omega)
        rw [show (8 : Int) - (((7 - d).toNat + 1 : Nat) : Int) = d by omega] at hi
        have hk := hG.1
        rw [← hok] at hk
        simp only [okS, hi, Bool.and_false, Bool.false_and] at hk
        cases hk
    · have hTk : HB.take HA.length = HA := by rw [← hHB]; exact List.take_left
      have hTk2 : HA.take H.length = H := by rw [← hHA]; exact List.take_left
      have hn : nxtC ok s (c1, c2) = (c1 + turnX d, c2 + turnY d) := by unfold nxtC; rw [hf]; rfl
      rw [hn]
      subst hz'
      simp (maxDischargeDepth := 8) only [go_sem, neM, hw, lB, hTk]
      rw [hHl, hTk2, ← hH]
      rfl
theorem edg_ok (W : Wd) (cl sz : Int) (inR : Cl → Bool) : Edg (okS W cl sz inR) where
  dir c d hk := by
    simp only [okS, Bool.and_eq_true] at hk
    have h1 := steps_dir hk.1.2
    simp only [stepOk, Bool.and_eq_true] at h1
    exact h1.1.1
  back c d hk := by
    have hk' := hk
    simp only [okS, Bool.and_eq_true] at hk
    have h1 := steps_dir hk.1.2
    simp only [stepOk, Bool.and_eq_true] at h1
    have hd := h1.1.1
    obtain ⟨b1, b2, b3, b4⟩ := back_turn hd
    have hb := steps_back hk.1.2
    have e : mvC (mvC c d) (backP d) = c := by
      unfold mvC
      rw [b1, b2]
      exact Prod.ext (by dsimp only; omega) (by dsimp only; omega)
    refine ⟨?_, e, ?_⟩
    · simp only [okS, Bool.and_eq_true]
      rw [e]
      exact ⟨⟨hk.2, hb⟩, hk.1.1⟩
    · unfold costP
      rw [b3, hd, if_pos rfl, if_pos rfl]
      by_cases h4 : 4 ≤ d
      · rw [if_neg (by omega), if_neg (by omega)]
      · rw [if_pos (by omega), if_pos (by omega)]
abbrev okR (W : Wd) (cl sz ax ay aw ah : Int) : Cl → Int → Bool := okS W cl sz (fun c => hasB ax ay aw ah c.1 c.2)
/-- May a way be asked for? -/
def Vd (W : Wd) (cl sz ax ay aw ah f1 f2 t1 t2 : Int) : Bool := hasB ax ay aw ah f1 f2 && hasB ax ay aw ah t1 t2 && W.stands cl sz f1 f2 && W.stands cl sz t1 t2
/-- The way, and its cost. -/
def WayRes (W : Wd) (cl sz ax ay aw ah f1 f2 t1 t2 : Int) (N : Nat) (o : Int) (l : List Cl) (c : Int) : Prop :=
  (o = 2 ∧ l = [] ∧ c = 0 ∧ (Vd W cl sz ax ay aw ah f1 f2 t1 t2 = true → ∀ v, ¬ Pth (okR W cl sz ax ay aw ah) (t1, t2) (f1, f2) v)) ∨
  (o = 1 ∧ Vd W cl sz ax ay aw ah f1 f2 t1 t2 = true ∧ Mn (okR W cl sz ax ay aw ah) (t1, t2) (f1, f2) c ∧ c ≤ 14 * (N : Int) ∧ l = wayC (okR W cl sz ax ay aw ah) (t1, t2) c.toNat (f1, f2))
theorem r_route_Find_1 {Y : Mem} (hw : Y.Wf) {d i : Nat} {f1 f2 : Int} (hd : d < Y.dep) (hY : Y.get (.st d i) = some (.cells true [.int .i64 f1, .int .i64 f2])) (x y : Int) : RV tb (.fn f_route_Find_1 [] [.ptr (.st d i) 0]) [.agg [.int .i64 x, .int .i64 y]] Y = some (.int .i64 (octC x y f1 f2), Y) := by
  have hl : Y.load (.st d i) 0 (some 2) = some (.agg [.int .i64 f1, .int .i64 f2]) := by rw [load_get, hY]; rfl
  rw [RV_fn]
  show RF tb f_route_Find_1 [.agg [.int .i64 x, .int .i64 y], .ptr (.st d i) 0] Y = _
  rw [RF_go t_route_Find_1 _ _ rfl]
  simp (maxDischargeDepth := 8) only [go_sem, s_route_Find_1, hw, hd, hl, r_cell_Octile]
theorem octC_cons (W : Wd) (cl sz ax ay aw ah f1 f2 : Int) : ∀ c d, okR W cl sz ax ay aw ah c d = true → octC c.1 c.2 f1 f2 ≤ costP d + octC (mvC c d).1 (mvC c d).2 f1 f2 := fun c d hk => by
  simp only [okR, okS, Bool.and_eq_true] at hk
  exact octC_step (steps_dir hk.1.2) f1 f2
/-- The blocks of Find's frame, but for the current cell's. -/
def fdB (cl sz f1 f2 t1 t2 ax ay aw ah : Int) (hv : SV) (jl : List SBk) : List SBk := [.cells true [.int .i64 cl, .int .i64 sz], .cells true [.int .i64 f1, .int .i64 f2], .cells true [.int .i64 t1, .int .i64 t2], .cells true [.int .i64 ax, .int .i64 ay, .int .i64 aw, .int .i64 ah], .cells true [.int .i64 0, .nils], .cells true [.int .i64 2, .nils], .cells true [.int .i64 1, hv]] ++ jl
section
variable (cl sz f1 f2 t1 t2 ax ay aw ah : Int) (hv : SV) (jl : List SBk)
theorem fdB_2 (c : SBk) : (fdB cl sz f1 f2 t1 t2 ax ay aw ah hv jl ++ [c])[2]? = some (.cells true [.int .i64 t1, .int .i64 t2]) := rfl
theorem fdB_4 (c : SBk) : (fdB cl sz f1 f2 t1 t2 ax ay aw ah hv jl ++ [c])[4]? = some (.cells true [.int .i64 0, .nils]) := rfl
theorem fdB_6 (c : SBk) : (fdB cl sz f1 f2 t1 t2 ax ay aw ah hv jl ++ [c])[6]? = some (.cells true [.int .i64 1, hv]) := rfl
theorem fdB_len : (fdB cl sz f1 f2 t1 t2 ax ay aw ah hv jl).length = 7 + jl.length := by simp [fdB]; omega
theorem fdB_i (c : SBk) : (fdB cl sz f1 f2 t1 t2 ax ay aw ah hv jl ++ [c])[7 + jl.length]? = some c := by rw [← fdB_len cl sz f1 f2 t1 t2 ax ay aw ah hv jl]; simp
theorem fdB_si (c d : SBk) : (fdB cl sz f1 f2 t1 t2 ax ay aw ah hv jl ++ [c]).set (7 + jl.length) d = fdB cl sz f1 f2 t1 t2 ax ay aw ah hv jl ++ [d] := by rw [← fdB_len cl sz f1 f2 t1 t2 ax ay aw ah hv jl, List.set_append_right _ _ (Nat.le_refl _), Nat.sub_self]; rfl
theorem fdB_s6 (c : SBk) (hv2 : SV) : (fdB cl sz f1 f2 t1 t2 ax ay aw ah hv jl ++ [c]).set 6 (.cells true [.int .i64 1, hv2]) = fdB cl sz f1 f2 t1 t2 ax ay aw ah hv2 jl ++ [c] := rfl
theorem fdB_s4 (c : SBk) (v : List SV) : (fdB cl sz f1 f2 t1 t2 ax ay aw ah hv jl ++ [c]).set 4 (.cells true v) = [.cells true [.int .i64 cl, .int .i64 sz], .cells true [.int .i64 f1, .int .i64 f2], .cells true [.int .i64 t1, .int .i64 t2], .cells true [.int .i64 ax, .int .i64 ay, .int .i64 aw, .int .i64 ah], .cells true v, .cells true [.int .i64 2, .nils], .cells true [.int .i64 1, hv]] ++ (jl ++ [c]) := rfl
theorem fdB_new (c d : SBk) : fdB cl sz f1 f2 t1 t2 ax ay aw ah hv jl ++ [c] ++ [d] = fdB cl sz f1 f2 t1 t2 ax ay aw ah hv (jl ++ [c]) ++ [d] := by simp [fdB]
theorem fdB_new' (c d : SBk) : fdB cl sz f1 f2 t1 t2 ax ay aw ah hv jl ++ [c, d] = fdB cl sz f1 f2 t1 t2 ax ay aw ah hv (jl ++ [c]) ++ [d] := by simp [fdB]
theorem fdB_l1 (c : SBk) : (fdB cl sz f1 f2 t1 t2 ax ay aw ah hv jl ++ [c]).length = 7 + (jl ++ [c]).length := by simp [fdB]; omega
end
theorem r_route_Find {X : Mem} {p : WP} {W : Wd} (hW : WorldOwn X.heap p W) (hg : W.Good) (hw : X.Wf) (hhb : X.hb ≤ X.hl) (cl sz f1 f2 t1 t2 ax ay aw ah B : Int) {N : Nat} (hN : N ≤ 20000) (hBr : -9223372036854775808 ≤ B ∧ B ≤ 9223372036854775807) (hcnt : ∀ l : List Cl, l.Nodup → (∀ c ∈ l, hasB ax ay aw ah c.1 c.2 = true ∧ W.stands cl sz c.1 c.2 = true) → l.length ≤ N) :
    ∃ H' u o v l c, RF tb f_route_Find [.ptr (.hp p.k 0) 0, .agg [.int .i64 cl, .int .i64 sz], .agg [.int .i64 f1, .int .i64 f2], .agg [.int .i64 t1, .int .i64 t2], .agg [.int .i64 ax, .int .i64 ay, .int .i64 aw, .int .i64 ah], .int .i64 B] X = some (.tup [.agg [.int .i64 o, v], .int .i64 c], (X.hp H').es (escMin X.esc u)) ∧ Keep [] X.heap H' ∧ Own cellF H' v l ∧ (∀ i ∈ slFp v, X.heap.length ≤ i) ∧
      ((o = 3 ∧ l = [] ∧ c = 0 ∧ B < N) ∨ WayRes W cl sz ax ay aw ah f1 f2 t1 t2 N o l c) := by
  rw [RF_go t_route_Find _ _ rfl, push_hp]
  generalize hH : X.heap = H at *
  have hHl : X.hl = H.length := by rw [← hH]; rfl
  simp (maxDischargeDepth := 8) only [go_sem, s_route_Find, hw, hH, r_cell_Has, r_class_Stands hW.at_ hg]
  have htk : H.take X.hl = H := by rw [hHl, List.take_length]
  have nope : Vd W cl sz ax ay aw ah f1 f2 t1 t2 = false → ∃ H' u o v l c, (some (.tup [.agg [.int .i64 2, .nils], .int .i64 0], X.hp (List.take X.hl H)) : Option (SV × Mem)) = some (.tup [.agg [.int .i64 o, v], .int .i64 c], (X.hp H').es (escMin X.esc u)) ∧ Keep [] H H' ∧ Own cellF H' v l ∧ (∀ i ∈ slFp v, H.length ≤ i) ∧
      ((o = 3 ∧ l = [] ∧ c = 0 ∧ B < N) ∨ WayRes W cl sz ax ay aw ah f1 f2 t1 t2 N o l c) := fun hv => by
    refine ⟨H, none, 2, .nils, [], 0, ?_, Keep.refl _ _, Own.nil _, by simp [slFp], .inr (.inl ⟨rfl, rfl, rfl, fun h => by rw [hv] at h; cases h⟩)⟩
    rw [htk]
    cases X with | mk a b c d e => cases e <;> rfl
  cases h1 : hasB ax ay aw ah f1 f2 with
  | false =>
    simp (maxDischargeDepth := 8) only [go_sem, hw]
    exact nope (by simp [Vd, h1])
  | true =>
    simp (maxDischargeDepth := 8) only [go_sem, hw, r_cell_Has, r_class_Stands hW.at_ hg]
    cases h2 : hasB ax ay aw ah t1 t2 with
    | false =>
      simp (maxDischargeDepth := 8) only [go_sem, hw]
      exact nope (by simp [Vd, h2])
    | true =>
      simp (maxDischargeDepth := 8) only [go_sem, hw, r_cell_Has, r_class_Stands hW.at_ hg]
      cases h3 : W.stands cl sz f1 f2 with
      | false =>
        simp (maxDischargeDepth := 8) only [go_sem, hw]
        exact nope (by simp [Vd, h3])
      | true =>
        simp (maxDischargeDepth := 8) only [go_sem, hw, r_cell_Has, r_class_Stands hW.at_ hg]
        cases h4 : W.stands cl sz t1 t2 with
        | false =>
          simp (maxDischargeDepth := 8) only [go_sem, hw]
          exact nope (by simp [Vd, h4])
        | true =>
          have hvd : Vd W cl sz ax ay aw ah f1 f2 t1 t2 = true := by simp [Vd, h1, h2, h3, h4]
          clear nope
          simp (maxDischargeDepth := 8) only [go_sem, hw]
          obtain ⟨HS, hHS⟩ : ∃ HS, H ++ [(0, SBk.cells true [.ptr (.hp p.k 0) 0, .int .i64 cl, .int .i64 sz, .int .i64 ax, .int .i64 ay, .int .i64 aw, .int .i64 ah, .nilm, .nilm])] = HS := ⟨_, rfl⟩
          have kS : Keep [] H HS := by rw [← hHS]; exact Keep.app _ _ _
          have lS : HS.length = H.length + 1 := by rw [← hHS, List.length_append]; rfl
          have bS : hget HS H.length 0 = some (.cells true (srC p cl sz ax ay aw ah .nilm .nilm)) := by rw [← hHS]; exact hget_new0 0 _
          rw [hHS]
          have hWS := hW.keep kS (by simp)
          have npk : H.length ∉ p.fp := fun hc => by have := hW.at_.lt _ hc; omega
          have hfn : FnV (X.dep + 1) (.fn f_route_Find_1 [] [.ptr (.st X.dep 1) 0]) := by
            refine ⟨rfl, by simp [SV.known], fun a b hab => ?_, fun a b hab => ?_⟩ <;> (simp only [SV.cell, SV.lv, SV.lvs, Bk.lv]; simp; omega)
          generalize hz : RF tb f_route_search_spread _ _ = z
          obtain ⟨b, H', u, M, K, hsp, k1, ⟨kc, kd, q1, q2, q3, q4, q5⟩, hmb, hres⟩ := r_route_search_spread (X := (X.hp HS).fr [.cells true [.int .i64 cl, .int .i64 sz], .cells true [.int .i64 f1, .int .i64 f2], .cells true [.int .i64 t1, .int .i64 t2], .cells true [.int .i64 ax, .int .i64 ay, .int .i64 aw, .int .i64 ah], .cells true [.int .i64 0, .nils], .cells true [.int .i64 2, .nils]] none)
            (ks := H.length) (h := fun a b => octC a b f1 f2) (rv := .fn f_route_Find_1 [] [.ptr (.st X.dep 1) 0]) (N := N) hWS hg npk bS (fr_wf (hp_wf hw) _ _) (by show X.hb ≤ H.length; omega)
            hfn (fun Y _ hl hY x y => r_route_Find_1 hY (by have := hl.1; rw [fr_dep] at this; exact this) (by rw [hl.2 X.dep 1 (by rw [fr_dep]; exact Nat.lt_succ_self _)]; simp (maxDischargeDepth := 8) only [go_sem]) x y) f1 f2 B false hN (fun a b => octC_in a b f1 f2) (octC_cons W cl sz ax ay aw ah f1 f2) hBr ⟨h2, h4⟩ hcnt
          · obtain rfl := hz.symm.trans hsp
            clear hsp hz
            change Keep [H.length] HS H' at k1
            change HS.length ≤ kc at q1
            change HS.length ≤ kd at q2
            simp (maxDischargeDepth := 8) only [go_sem, hw]
            have kHH : Keep [] H H' := kS.trans' k1 (fun m hm hl => by simp at hm; omega)
            cases b with
            | false =>
              rcases hres with ⟨hb, _⟩ | ⟨_, hBN⟩
              · cases hb
              simp (maxDischargeDepth := 8) only [go_sem, hw]
              have kb := (show Keep [] X.heap H' by rw [hH]; exact kHH).back0 (u := u)
              rw [hH] at kb
              exact ⟨_, u, 3, .nils, [], 0, rfl, kb, Own.nil _, by simp [slFp], .inl ⟨rfl, rfl, rfl, hBN⟩⟩
            | true =>
              rcases hres with ⟨_, Bo, hBo, F⟩ | ⟨hb, _⟩
              rotate_left
              · cases hb
              simp (maxDischargeDepth := 8) only [go_sem, hw, q3, srC, q4, assoc_cell, gm_getD, gm_some]
              have hE := edg_ok W cl sz (fun c => hasB ax ay aw ah c.1 c.2)
              cases hgf : gM M (f1, f2) with
              | none =>
                simp (maxDischargeDepth := 8) only [go_sem, hw, Option.getD_none, Option.isSome_none]
                have kb := (show Keep [] X.heap H' by rw [hH]; exact kHH).back0 (u := u)
                rw [hH] at kb
                refine ⟨_, u, 2, .nils, [], 0, rfl, kb, Own.nil _, by simp [slFp], .inr (.inl ⟨rfl, rfl, rfl, fun _ w hp => ?_⟩)⟩
                have hdn := F.all _ w hp (fun b hb => by have := (hBo b hb).2; rw [hgf] at this; cases this)
                obtain ⟨v, hv, _⟩ := F.dm _ hdn
                rw [hgf] at hv; cases hv
              | some v0 =>
                simp (maxDischargeDepth := 8) only [go_sem, hw, Option.getD_some, Option.isSome_some]
                have hoct : octC f1 f2 f1 f2 = 0 := octC_self f1 f2
                have hMn : Mn (okR W cl sz ax ay aw ah) (t1, t2) (f1, f2) v0 := by
                  have hdn := F.all _ v0 (F.p _ _ hgf) (fun b hb => by have := (hBo b hb).2; rw [hgf] at this; cases this; dsimp only; omega)
                  obtain ⟨v, hv, hm⟩ := F.dm _ hdn
                  rw [hgf] at hv; cases hv
                  exact hm
                have hv14 := hmb _ _ hgf
                have hv00 := (hMn.1.nn hE.dir).1
                refine KL_ind (R := fun z => ∃ H' u o v l c, fin [.cell 12 (some 2), .t 13] X z = some (.tup [.agg [.int .i64 o, v], .int .i64 c], (X.hp H').es (escMin X.esc u)) ∧ Keep [] H H' ∧ Own cellF H' v l ∧ (∀ i ∈ slFp v, H.length ≤ i) ∧ ((o = 3 ∧ l = [] ∧ c = 0 ∧ B < N) ∨ WayRes W cl sz ax ay aw ah f1 f2 t1 t2 N o l c)) (α := List Cl × Cl × Int × SV × Hp × Option Nat × List SBk × Option Cl) (fun q => q.2.2.1.toNat)
                  (fun q => match q.2.2.2.2.2.2.2 with
                    | none => [(9, .ptr (.st X.dep 2) 0), (12, .ptr (.st X.dep 4) 0), (15, .ptr (.hp H.length 0) 0), (16, .int .i64 v0), (18, .ptr (.st X.dep 6) 0), (19, .ptr (.st X.dep (7 + q.2.2.2.2.2.2.1.length)) 0)]
                    | some p => [(19, .ptr (.st X.dep (7 + q.2.2.2.2.2.2.1.length)) 0), (85, .agg [.int .i64 p.1, .int .i64 p.2]), (9, .ptr (.st X.dep 2) 0), (12, .ptr (.st X.dep 4) 0), (15, .ptr (.hp H.length 0) 0), (16, .int .i64 v0), (18, .ptr (.st X.dep 6) 0), (19, .ptr (.st X.dep (7 + (q.2.2.2.2.2.2.1.length - 1))) 0)])
                  (fun q => (X.hp q.2.2.2.2.1).fr (fdB cl sz f1 f2 t1 t2 ax ay aw ah q.2.2.2.1 q.2.2.2.2.2.2.1 ++ [.cells true [.int .i64 q.2.1.1, .int .i64 q.2.1.2]]) q.2.2.2.2.2.1)
                  (fun q => Own cellF q.2.2.2.2.1 q.2.2.2.1 q.1 ∧ (∀ i ∈ slFp q.2.2.2.1, H'.length ≤ i) ∧ Keep [] H' q.2.2.2.2.1 ∧ Mn (okR W cl sz ax ay aw ah) (t1, t2) q.2.1 q.2.2.1 ∧ octC q.2.1.1 q.2.1.2 f1 f2 + q.2.2.1 ≤ v0 ∧ wayC (okR W cl sz ax ay aw ah) (t1, t2) v0.toNat (f1, f2) = q.1 ++ wayC (okR W cl sz ax ay aw ah) (t1, t2) v0.toNat q.2.1 ∧ 10 * (q.1.length : Int) + q.2.2.1 ≤ v0) ?_ ([], (f1, f2), v0, .nils, H', u, [], none) ⟨Own.nil _, by simp [slFp], Keep.refl _ _, hMn, by dsimp only; omega, rfl, by simp⟩
                rintro ⟨acc, ⟨c1, c2⟩, vc, hv, Hc, e, jl, pc⟩ ⟨ow, fp, kc', hm, ho, hway, hlen⟩ ih
                dsimp only at ow fp kc' hm ho hway hlen ⊢
                have hk1 := k1.1
                have hk2 := kc'.1
                have hvc := (hm.1.nn hE.dir).1
                have s1 := ow.isSl cellF_even
                by_cases hct : ((c1, c2) : Cl) = (t1, t2)
                · simp only [Prod.mk.injEq] at hct
                  obtain ⟨rfl, rfl⟩ := hct
                  have kkh : Keep [] H Hc := kHH.trans kc'
                  have kb := (show Keep [] X.heap Hc by rw [hH]; exact kkh).back (h := hv.hx) (u := e)
                  rw [hH] at kb
                  have hz0 : vc = 0 := hm.uniq (mn_self hE.dir)
                  rcases pc with _ | pc
                  all_goals dsimp only
                  all_goals simp (maxDischargeDepth := 8) only [go_sem, hw, s1.l, s1.c, s1.k, s1.o, fdB_2, fdB_4, fdB_6, fdB_len, fdB_i, fdB_s4]
                  all_goals
                    refine ⟨_, e, 1, hv, acc, v0, rfl, kb, ow.congr fun i hi => ?_, fun i hi => by have := fp i hi; omega, .inr (.inr ⟨rfl, hvd, hMn, hv14, ?_⟩)⟩
                    · have := fp i hi
                      have h9 := hx_fp hi
                      rw [if_neg (by omega)]
                    · rw [hway, way_nil, List.append_nil]
                · have hne : (c1 == t1 && c2 == t2) = false := by
                    rw [Bool.eq_false_iff]
                    intro hc
                    simp only [Bool.and_eq_true, beq_iff_eq] at hc
                    exact hct (Prod.ext hc.1 hc.2)
                  have hh4 : ∀ c d, okR W cl sz ax ay aw ah c d = true → octC c.1 c.2 f1 f2 ≤ costP d + octC (mvC c d).1 (mvC c d).2 f1 f2 := octC_cons W cl sz ax ay aw ah f1 f2
                  have hnx : ∀ f e, RF tb f_route_search_next [.ptr (.hp H.length 0) 0, .agg [.int .i64 c1, .int .i64 c2]] ((X.hp Hc).fr f e) = some (.agg [.int .i64 (nxtC (okR W cl sz ax ay aw ah) (t1, t2) (c1, c2)).1, .int .i64 (nxtC (okR W cl sz ax ay aw ah) (t1, t2) (c1, c2)).2], (X.hp Hc).fr f e) := fun f e =>
                    r_route_search_next (X := (X.hp Hc).fr f e) (hW.keep (kHH.trans kc') (by simp)) hg (kc'.get q3 (by simp)) (fr_wf (hp_wf hw) _ _) (kc'.get q4 (by simp)) (kc'.get q5 (by simp)) F hE hh4 ⟨h2, h4⟩ hN hmb hm (fun b hb => by have h5 := (hBo b hb).2; rw [hgf] at h5; cases h5; exact (by dsimp only; omega)) hct
                  obtain ⟨d, n1, n2, n3, n4, n5⟩ := nxt_good hE hm hct
                  have hback := hE.back _ _ n2.1
                  have hcd := cost_pos n5
                  have ho2 := hh4 _ _ hback.1
                  rw [hback.2.1, hback.2.2, ← n3] at ho2
                  have hwc := way_cons hE (n := v0.toNat) hm (by omega) hct
                  generalize hnn : nxtC (okR W cl sz ax ay aw ah) (t1, t2) (c1, c2) = nn at *
                  obtain ⟨a1, a2⟩ := nn
                  obtain ⟨hv2, H2, ha, o1, o2, o3, o4⟩ := app1 ow fp kc' (by omega) X (by omega) a1 a2
                  have hvn := (n4.1.nn hE.dir).1
                  have fin2 := ih (acc ++ [(a1, a2)], (a1, a2), vc - costP d, hv2, H2, e, jl ++ [.cells true [.int .i64 a1, .int .i64 a2]], some (a1, a2)) ⟨o1, o3, o2, n4, by dsimp only at ho2 ⊢; omega, by dsimp only; rw [hway, hwc, List.append_assoc]; rfl, by dsimp only; rw [List.length_append, List.length_singleton]; omega⟩ (by dsimp only; omega)
                  dsimp only at fin2
                  rw [show (jl ++ [SBk.cells true [.int .i64 a1, .int .i64 a2]]).length - 1 = jl.length by simp] at fin2
                  rcases pc with _ | pc
                  all_goals dsimp only
                  all_goals simp (maxDischargeDepth := 8) only [go_sem, hw, hne, hnx, s1.l, s1.c, s1.k, s1.o, ha, o4.l, o4.c, o4.k, o4.o, fdB_2, fdB_4, fdB_6, fdB_len, fdB_i, fdB_si, fdB_s6, fdB_new, fdB_new', fdB_l1]
                  all_goals exact fin2
theorem nat_count : ∀ (n : Nat) (l : List Nat), l.Nodup → (∀ x ∈ l, x < n) → l.length ≤ n := by
  intro n
  induction n with
  | zero => intro l _ h; cases l with
    | nil => exact Nat.le_refl _
    | cons a l => exact absurd (h a List.mem_cons_self) (by omega)
  | succ n ih =>
    intro l hn h
    by_cases hm : n ∈ l
    · obtain ⟨a, b, rfl⟩ := List.append_of_mem hm
      have hs : (a ++ b).Nodup := List.Pairwise.sublist (List.Sublist.append (List.Sublist.refl a) (List.sublist_cons_self n b)) hn
      rw [List.nodup_append] at hn
      have := ih (a ++ b) hs (fun x hx => by
        rcases List.mem_append.1 hx with hx | hx
        · have h1 := h x (List.mem_append_left _ hx)
          have h2 := hn.2.2 x hx n List.mem_cons_self
          omega
        · have h1 := h x (List.mem_append_right _ (List.mem_cons_of_mem _ hx))
          have h2 := (List.nodup_cons.1 hn.2.1).1
          have h3 : x ≠ n := fun e => h2 (e ▸ hx)
          omega)
      simp only [List.length_append, List.length_cons] at this ⊢
      omega
    · have := ih l hn (fun x hx => by have h1 := h x hx; have h3 : x ≠ n := fun e => hm (e ▸ hx); omega)
      omega
theorem bx_count (r : Bx) (l : List Cl) (hn : l.Nodup) (h : ∀ c ∈ l, r.has c = true) : l.length ≤ r.n := by
  have := nat_count r.n (l.map r.ix) (by
    rw [List.Nodup, List.pairwise_map]
    refine List.Pairwise.imp_of_mem (fun {a b} ha hb hab e => hab ?_) hn
    have e1 := (Bx.ix_lt (h a ha)).2.1
    have e2 := (Bx.ix_lt (h b hb)).2.1
    rw [← e1, ← e2, e]) (fun x hx => by
    obtain ⟨c, hc, rfl⟩ := List.mem_map.1 hx
    exact (Bx.ix_lt (h c hc)).1)
  simpa using this
def wBx (W : Wd) : Bx := ⟨0, 0, W.w, W.h⟩
theorem stands_bx {W : Wd} {cl sz a b : Int} (h : W.stands cl sz a b = true) : (wBx W).has (a, b) = true := by
  have h1 := (stands_in h).2.2.2.1
  unfold Wd.has at h1
  have h2 := has_iff.1 h1
  exact Bx.has_iff.2 ⟨⟨h2.2.1, h2.2.2.1⟩, h2.2.2.2⟩
theorem cnt_w (W : Wd) (cl sz ax ay aw ah : Int) : ∀ l : List Cl, l.Nodup → (∀ c ∈ l, hasB ax ay aw ah c.1 c.2 = true ∧ W.stands cl sz c.1 c.2 = true) → l.length ≤ (wBx W).n := fun l hn h => bx_count (wBx W) l hn fun c hc => stands_bx (h c hc).2
section
variable {W : Wd} {cl sz ax ay aw ah f1 f2 t1 t2 : Int} {N : Nat} {o c : Int} {l : List Cl}
theorem WayRes.o12 (h : WayRes W cl sz ax ay aw ah f1 f2 t1 t2 N o l c) : o = 1 ∨ o = 2 := by
  rcases h with ⟨rfl, _⟩ | ⟨rfl, _⟩
  · exact .inr rfl
  · exact .inl rfl
theorem WayRes.l_in (h : WayRes W cl sz ax ay aw ah f1 f2 t1 t2 N o l c) : 10 * (l.length : Int) ≤ 14 * (N : Int) := by
  rcases h with ⟨_, rfl, rfl, _⟩ | ⟨_, _, hm, h1, rfl⟩
  · simp; omega
  · have := way_len (edg_ok _ _ _ _) c.toNat hm (Nat.le_refl _)
    exact Int.le_trans this h1
theorem WayRes.found (h : WayRes W cl sz ax ay aw ah f1 f2 t1 t2 N 1 l c) : Vd W cl sz ax ay aw ah f1 f2 t1 t2 = true ∧ Mn (okR W cl sz ax ay aw ah) (t1, t2) (f1, f2) c ∧ l = wayC (okR W cl sz ax ay aw ah) (t1, t2) c.toNat (f1, f2) := by
  rcases h with ⟨h, _⟩ | ⟨_, h1, h2, _, h3⟩
  · omega
  · exact ⟨h1, h2, h3⟩
theorem WayRes.of_pth (h : WayRes W cl sz ax ay aw ah f1 f2 t1 t2 N o l c) (hv : Vd W cl sz ax ay aw ah f1 f2 t1 t2 = true) {v : Int} (hp : Pth (okR W cl sz ax ay aw ah) (t1, t2) (f1, f2) v) : o = 1 ∧ c ≤ v := by
  rcases h with ⟨_, _, _, h⟩ | ⟨h1, _, h2, _⟩
  · exact absurd hp (h hv v)
  · exact ⟨h1, h2.2 v hp⟩
end
theorem aw_vd : Vd (Wd.plain 3 3) 0 1 0 0 3 3 0 0 2 1 = true := by decide +kernel
theorem aw_k1 : okR (Wd.plain 3 3) 0 1 0 0 3 3 (2, 1) 6 = true := by decide +kernel
theorem aw_k2 : okR (Wd.plain 3 3) 0 1 0 0 3 3 (1, 0) 2 = true := by decide +kernel
theorem aw_k3 : okR (Wd.plain 3 3) 0 1 0 0 3 3 (0, 0) 0 = true := by decide +kernel
theorem aw_p1 : Pth (okR (Wd.plain 3 3) 0 1 0 0 3 3) (2, 1) (1, 0) 14 := Pth.step (s := (2, 1)) .nil aw_k1
theorem aw_p2 : Pth (okR (Wd.plain 3 3) 0 1 0 0 3 3) (2, 1) (0, 0) 24 := Pth.step aw_p1 aw_k2
theorem aw_m1 : Mn (okR (Wd.plain 3 3) 0 1 0 0 3 3) (2, 1) (1, 0) 14 := ⟨aw_p1, fun v hp => by
  have h := hp.lower (h := fun c => octC c.1 c.2 1 0) (octC_cons _ _ _ _ _ _ _ 1 0)
  have e1 : octC 2 1 1 0 = 14 := by decide +kernel
  have e2 : octC 1 0 1 0 = 0 := by decide +kernel
  dsimp only at h
  omega⟩
theorem aw_m2 : Mn (okR (Wd.plain 3 3) 0 1 0 0 3 3) (2, 1) (0, 0) 24 := ⟨aw_p2, fun v hp => by
  have h := hp.lower (h := fun c => octC c.1 c.2 0 0) (octC_cons _ _ _ _ _ _ _ 0 0)
  have e1 : octC 2 1 0 0 = 24 := by decide +kernel
  have e2 : octC 0 0 0 0 = 0 := by decide +kernel
  dsimp only at h
  omega⟩
theorem aw_way : wayC (okR (Wd.plain 3 3) 0 1 0 0 3 3) (2, 1) 24 (0, 0) = [(1, 0), (2, 1)] := by
  have hE := edg_ok (Wd.plain 3 3) 0 1 (fun c => hasB 0 0 3 3 c.1 c.2)
  have n1 : nxtC (okR (Wd.plain 3 3) 0 1 0 0 3 3) (2, 1) (0, 0) = (1, 0) := by
    have hf : firstD (Good (okR (Wd.plain 3 3) 0 1 0 0 3 3) (2, 1) (0, 0)) 8 = some 0 := firstD_first ⟨aw_k3, 14, aw_m1, aw_m2⟩ rfl (fun e he hlt => by simp [isDir] at he; omega)
    unfold nxtC
    rw [hf]
    rfl
  have n2 : nxtC (okR (Wd.plain 3 3) 0 1 0 0 3 3) (2, 1) (1, 0) = (2, 1) := by
    obtain ⟨d, _, _, _, hm, hd⟩ := nxt_good hE aw_m1 (by decide)
    have hc := cost_pos hd
    have hn := hm.1.nn hE.dir
    by_cases e : nxtC (okR (Wd.plain 3 3) 0 1 0 0 3 3) (2, 1) (1, 0) = (2, 1)
    · exact e
    · have := hn.2 e
      omega
  rw [way_cons hE aw_m2 (by decide) (by decide), n1, way_cons hE aw_m1 (by decide) (by decide), n2, way_nil]
theorem r_law10_awake (X : Mem) (hw : X.Wf) (hhb : X.hb ≤ X.hl) : ∃ H' u, RF tb f_law10_awake [] X = some (.bool true, (X.hp H').es (escMin X.esc u)) ∧ Keep [] X.heap H' := by
  rw [RF_go t_law10_awake _ _ rfl, push_hp]
  generalize hH : X.heap = H
  have hHl : X.hl = H.length := by rw [← hH]; rfl
  obtain ⟨H1, hH1⟩ : ∃ H1, H ++ [(0, SBk.cells true (List.replicate 9 [SV.int IntKind.u8 0]).flatten)] = H1 := ⟨_, rfl⟩
  have own : Own byteF H1 (.sl (.hp H.length 0) 0 9 (some 9) 1) (List.replicate 9 0) := by rw [← hH1]; exact mkslV_own byteF_even H 0 9
  have k1 : Keep [] H H1 := by rw [← hH1]; exact Keep.app _ _ _
  have hn := r_grid_New (X := (X.hp H1).fr [] none) (bl := []) (own.lies byteF_even) (LiesD.nil bldF _) (by decide) (fr_wf (hp_wf hw) _ _) (by show X.hb ≤ H1.length; have := k1.1; omega) 3 3
  rw [plain33] at hn
  obtain ⟨H2, u, p, h1, hO, k2, hF⟩ := hn
  change Keep [] H1 H2 at k2
  have hg := plain_good 3 3
  simp (maxDischargeDepth := 8) only [go_sem, s_law10_awake, hw, hH, show (9 : Int) ≤ (two48 : Int) from by decide, hH1, h1]
  generalize hz : RF tb f_route_Find _ _ = z
  have hl1 := k1.1
  have hl2 := k2.1
  have hcn := cnt_w (Wd.plain 3 3) 0 1 0 0 3 3
  obtain ⟨H3, u3, o, v, l, c, rfl, k3, ow, fp, hres⟩ : ∃ H' u' o v l c, z = some (.tup [.agg [.int .i64 o, v], .int .i64 c], ((X.hp H').fr [] (escMin (escMin none u) u'))) ∧ Keep [] H2 H' ∧ Own cellF H' v l ∧ (∀ i ∈ slFp v, H2.length ≤ i) ∧ WayRes (Wd.plain 3 3) 0 1 0 0 3 3 0 0 2 1 9 o l c := by
    obtain ⟨H', u', o, v, l, c, q1, q2, q3, q4, q5⟩ := r_route_Find (X := (X.hp H2).fr [] (escMin none u)) hO hg (fr_wf (hp_wf hw) _ _) (by show X.hb ≤ H2.length; omega) 0 1 0 0 2 1 0 0 3 3 9 (N := 9) (by decide) (by decide) hcn
    refine ⟨H', u', o, v, l, c, hz.symm.trans q1, q2, q3, q4, ?_⟩
    rcases q5 with ⟨_, _, _, q5⟩ | q5
    · exact absurd q5 (by decide)
    · exact q5
  obtain ⟨rfl, hc⟩ := hres.of_pth aw_vd aw_p2
  obtain ⟨-, hm, hl⟩ := hres.found
  obtain rfl := hm.uniq aw_m2
  rw [show (24 : Int).toNat = 24 from rfl, aw_way] at hl
  subst hl
  have s1 := ow.isSl cellF_even
  have ll := ow.lies cellF_even
  simp (maxDischargeDepth := 8) only [go_sem, hw, s1.l, s1.c, s1.k, s1.o, show ((0 : Int) == 0) = true from rfl, show ((1 : Int) == 1) = true from rfl, show ((24 : Int) == 24) = true from rfl, ll.len, ll.iaddrC0 (by decide), ll.loadC0 (a := (1, 0)) rfl]
  exact ⟨_, _, rfl, by rw [← hH] at k1 ⊢; exact ((k1.trans k2).trans k3).back0⟩
theorem aw10 {X : Mem} {z : Option (SV × Mem)} (hz : RF tb f_law10_awake [] X = z) (hw : X.Wf) (hhb : X.hb ≤ X.hl) : ∃ H' u, z = some (.bool true, (X.hp H').es (escMin X.esc u)) ∧ Keep [] X.heap H' := by
  rw [← hz]
  exact r_law10_awake X hw hhb
abbrev askV (cl sz f1 f2 t1 t2 ax ay aw ah B : Int) : SV := .agg [.int .i64 cl, .int .i64 sz, .int .i64 f1, .int .i64 f2, .int .i64 t1, .int .i64 t2, .int .i64 ax, .int .i64 ay, .int .i64 aw, .int .i64 ah, .int .i64 B]
/-- The farthest cell that a line leads to. -/
def Wd.best (W : Wd) (cl sz x y : Int) (l : List (Int × Int)) : Nat → Nat
  | 0 => 0
  | n + 1 => match l[n]? with
    | some c => if W.legal cl sz x y (lineP x y c.1 c.2) then n + 1 else W.best cl sz x y l n
    | none => W.best cl sz x y l n
theorem r_ref10_Cells {m : Mem} {p q : SV} {l k : List (Int × Int)} (hp : LiesD cellF m p l) (hq : LiesD cellF m q k) (hb : 2 * l.length * 16 ≤ two48) {X : Mem} (hX : HpSub m X) (hw : X.Wf) (hlk : l = k) : RF tb f_ref10_Cells [p, q] X = some (.bool true, X) := by
  subst hlk
  rw [RF_go t_ref10_Cells _ _ rfl]
  simp (maxDischargeDepth := 8) only [go_sem, s_ref10_Cells, hw, hp.len, hq.len, show ((l.length : Int) != (l.length : Int)) = false from by simp]
  rw [KL_keep _ _ _ (by simp (maxDischargeDepth := 8) only [go_sem, hp.lv, hq.lv])]
  simp (maxDischargeDepth := 8) only [go_sem]
  refine KL_indE (α := Nat) (fun i => l.length - i) (fun i => [(0, p), (1, q), (5, .int .i64 (i : Int))]) (fun i => X.fr [] none) (fun i => i ≤ l.length) ?_ 0 (Nat.zero_le _)
  intro i hi ih
  simp (maxDischargeDepth := 8) only [go_sem, hw, hp.len, hp.lv, hq.lv]
  by_cases hlt : i < l.length
  · have hel : l[i]? = some l[i] := List.getElem?_eq_getElem hlt
    have hw2 : IntKind.wrap .i64 ((i : Int) + 1) = ((i + 1 : Nat) : Int) := by rw [wrap_small (by omega) (by simp only [two48] at hb; omega)]; rfl
    simp (maxDischargeDepth := 8) only [go_sem, show decide ((i : Int) < (l.length : Int)) = true from decide_eq_true (by omega), hw, hp.iaddrC hlt, hp.loadC hel, hq.iaddrC hlt, hq.loadC hel, hX, hw2]
    rw [KL_keep _ _ _ (by simp (maxDischargeDepth := 8) only [go_sem, hp.lv, hq.lv])]
    simp (maxDischargeDepth := 8) only [go_sem]
    exact ih (i + 1) (by omega) (by omega)
  · obtain rfl : i = l.length := by omega
    simp (maxDischargeDepth := 8) only [go_sem, show decide (((l.length : Nat) : Int) < (l.length : Int)) = false from decide_eq_false (by omega), hw]
theorem gr_of {X : Mem} {p : QP} {W : Wd} {bl : List Bld} {cl sz : Int} {z : Option (SV × Mem)} (hz : RF tb f_ref08_Of [.ptr (.hp p.k 0) 0, .agg [.int .i64 cl, .int .i64 sz]] X = z) (hV : RefOwn X.heap p W bl) (ho : ∀ a b, (atL bl a b).isSome = (atL W.bl a b).isSome) (hg : W.Good) (hw : X.Wf) (hhb : X.hb ≤ X.hl) : ∃ v' H', z = some (grV W.w W.h v', X.hp H') ∧ Own boolF H' v' (W.gr cl sz) ∧ (∀ i ∈ slFp v', X.heap.length ≤ i) ∧ Keep [] X.heap H' := by
  rw [← hz]
  exact r_ref08_Of hV ho hg hw hhb cl sz
abbrev iF : Fl Int := Fl.int .i64
theorem iF_even : iF.Even := ⟨fun _ => rfl⟩
theorem _root_.Go.Sh.LiesD.iaddrI {m : Mem} {v : SV} {l : List Int} (h : LiesD iF m v l) {i : Int} (h0 : 0 ≤ i) (hi : i < l.length) (k : IntKind) (m' : Mem) : iaddrV 1 v (.int k i) m' = some (.ptr (.hp (slN v) (slW v)) (slO v + i.toNat), m') := by
  have := LiesD.iaddr h (i := i.toNat) (by omega) k m'
  rw [show iF.sz = 1 from rfl, Nat.mul_one, Int.toNat_of_nonneg h0] at this
  exact this
theorem _root_.Go.Sh.LiesD.loadI {m : Mem} {v : SV} {l : List Int} (h : LiesD iF m v l) {i : Nat} {a : Int} (hi : l[i]? = some a) {X : Mem} (hX : HpSub m X) : X.load (.hp (slN v) (slW v)) (slO v + i) none = some (.int .i64 a) := by
  have := LiesD.load1 iF_even (h.sub hX) hi (j := 0) (by decide)
  rw [show iF.sz = 1 from rfl, Nat.mul_one, Nat.add_zero] at this
  exact this
theorem storeI {H : Hp} {v : SV} {l : List Int} (hv : Own iF H v l) {i : Nat} (hi : i < l.length) (X : Mem) (hm : ∀ i ∈ slFp v, X.hb ≤ i) (a : Int) :
    ∃ H', (∀ f e, ((X.hp H).fr f e).store (.hp (slN v) (slW v)) (slO v + i) [.int .i64 a] = some ((X.hp H').fr f e)) ∧ Own iF H' v (l.set i a) ∧ Keep (slFp v) H H' ∧ H'.length = H.length := by
  obtain ⟨H', h1, h2⟩ := store_own iF_even (by decide) (fun _ => rfl) (fun _ => rfl) hv hi X hm a
  refine ⟨H', fun f e => ?_, h2⟩
  have := h1 f e
  rw [show iF.sz = 1 from rfl, Nat.mul_one] at this
  exact this
abbrev fieldC (p : WP) (W : Wd) (cl : Int) (lv : SV) (ep : Int) : List SV := [.ptr (.hp p.k 0) 0, .int .i64 cl, .int .i64 0, .int .i64 0, .int .i64 W.w, .int .i64 W.h, lv, .int .i64 ep]
structure FieldAt (m : Mem) (k : Nat) (p : WP) (W : Wd) (cl : Int) (lv : SV) (ep : Int) (L : List Int) : Prop where
  hd : m.get (.hp k 0) = some (.cells true (fieldC p W cl lv ep))
  ll : LiesD iF m lv L
  len : L.length = W.w.toNat * W.h.toNat
  w1 : 1 ≤ W.w ∧ W.w ≤ 128
  h1 : 1 ≤ W.h ∧ W.h ≤ 128
theorem FieldAt.ld {m : Mem} {k : Nat} {p : WP} {W : Wd} {cl : Int} {lv : SV} {ep : Int} {L : List Int} (hF : FieldAt m k p W cl lv ep L) {X : Mem} (hX : HpSub m X) (off : Nat) (n : Option Nat) : X.load (.hp k 0) off n = partv (fieldC p W cl lv ep) off n := by rw [load_get, hX _ _ _ hF.hd]
theorem FieldAt.sub {m : Mem} {k : Nat} {p : WP} {W : Wd} {cl : Int} {lv : SV} {ep : Int} {L : List Int} (hF : FieldAt m k p W cl lv ep L) {X : Mem} (hX : HpSub m X) : FieldAt X k p W cl lv ep L := ⟨hX _ _ _ hF.hd, hF.ll.sub hX, hF.len, hF.w1, hF.h1⟩
theorem bx_has {x y w h a b : Int} (hm : mayB x y w h = true) : hasB x y w h a b = (Bx.mk x y w h).has (a, b) := by
  rw [Bool.eq_iff_iff, has_iff, Bx.has_iff]
  dsimp only
  exact ⟨fun h => ⟨⟨h.2.1, h.2.2.1⟩, h.2.2.2⟩, fun h => ⟨hm, h.1.1, h.1.2, h.2⟩⟩
/-- What comes back. -/
def CtPost (W : Wd) (cl sz x y w h f1 f2 : Int) (H : Hp) (v' : SV) (H' : Hp) (l : List Int) : Prop :=
  Own iF H' v' l ∧ (∀ i ∈ slFp v', H.length ≤ i) ∧ Keep [] H H' ∧ l.length = (Bx.mk x y w h).n ∧ (∀ v ∈ l, v ≤ 14 * ((Bx.mk x y w h).n : Int)) ∧
      (W.stands cl sz f1 f2 = false → l = List.replicate (Bx.mk x y w h).n (-1)) ∧ (W.stands cl sz f1 f2 = true → CostsOk (okR W cl sz x y w h) (f1, f2) ⟨x, y, w, h⟩ l)
theorem ct_fin {W : Wd} {cl sz x y w h f1 f2 : Int} {X : Mem} {v : SV} {Hc : Hp} {l : List Int} (hp : CtPost W cl sz x y w h f1 f2 X.heap v Hc l) : CtPost W cl sz x y w h f1 f2 X.heap v (if v.hx ≤ X.hl then Hc.take X.hl else Hc) l := by
  obtain ⟨a, b, c, d⟩ := hp
  refine ⟨a.congr fun i hi => ?_, b, c.back1, d⟩
  have h1 := b i hi
  have h2 := hx_fp hi
  rw [if_neg (by show ¬ v.hx ≤ X.heap.length; omega)]
theorem r_ref08_Ground_Costs {X : Mem} {v : SV} {W : Wd} {cl sz : Int} (hv : LiesD boolF (Hm X.heap) v (W.gr cl sz)) (w1 : 1 ≤ W.w ∧ W.w ≤ 128) (w2 : 1 ≤ W.h ∧ W.h ≤ 128) (hw : X.Wf) (hhb : X.hb ≤ X.hl) {x y w h : Int} (hm : mayB x y w h = true) (hx : 0 ≤ x ∧ 1 ≤ w ∧ x + w ≤ 128) (hy : 0 ≤ y ∧ 1 ≤ h ∧ y + h ≤ 128) {f1 f2 : Int} (hf : hasB x y w h f1 f2 = true) :
    ∃ v' H' l, RF tb f_ref08_Ground_Costs [grV W.w W.h v, cellV f1 f2, rect x y w h] X = some (v', X.hp H') ∧ CtPost W cl sz x y w h f1 f2 X.heap v' H' l := by
  rw [RF_go t_ref08_Ground_Costs _ _ rfl, push_hp]
  generalize hH : X.heap = H at *
  have hHl : X.hl = H.length := by rw [← hH]; rfl
  obtain ⟨n, hn⟩ : ∃ n, (Bx.mk x y w h).n = n := ⟨_, rfl⟩
  have hwh : w * h = (n : Int) := by rw [← hn]; show w * h = ((w.toNat * h.toNat : Nat) : Int); rw [Int.natCast_mul, Int.toNat_of_nonneg (by omega), Int.toNat_of_nonneg (by omega)]
  have hn2 : n ≤ 16384 := by rw [← hn]; show w.toNat * h.toNat ≤ 16384; exact Nat.mul_le_mul (show w.toNat ≤ 128 by omega) (show h.toNat ≤ 128 by omega)
  have wn : IntKind.wrap .i64 (w * h) = (n : Int) := by rw [wrap_small (by omega) (by omega), hwh]
  have hv2 : ((8 : Int) * (n : Int) ≤ (two48 : Int)) = True := by simp [two48]; omega
  have hv3 : ((n : Int) < 9223372036854775808) = True := by simp; omega
  have hv4 : ((0 : Int) ≤ (n : Int)) = True := by simp
  have sv := hv.isSl
  obtain ⟨H1, hH1⟩ : ∃ H1, H ++ [(0, SBk.cells true (List.replicate n [SV.int .i64 0]).flatten)] = H1 := ⟨_, rfl⟩
  have own : Own iF H1 (.sl (.hp H.length 0) 0 n (some n) 1) (List.replicate n 0) := by rw [← hH1]; exact mkslV_own iF_even H 0 n
  have k1 : Keep [] H H1 := by rw [← hH1]; exact Keep.app _ _ _
  have fp : ∀ i ∈ slFp (.sl (.hp H.length 0) 0 n (some n) 1), H.length ≤ i := by simp [slFp]
  simp (maxDischargeDepth := 8) only [go_sem, s_ref08_Ground_Costs, cellV, grV, rect, hw, hH, hv.cell, wn, hv.lv, hv2, hv3, hv4, hH1, Int.le_refl]
  generalize (SV.sl (.hp H.length 0) 0 n (some n) 1) = ov at *
  rw [KL_keep _ _ _ (by simp (maxDischargeDepth := 8) only [go_sem, (own.isSl iF_even).l])]
  simp (maxDischargeDepth := 8) only [go_sem]
  refine KL_ind (R := fun z => ∃ v' H' l, fin [.t 6] X z = some (v', X.hp H') ∧ CtPost W cl sz x y w h f1 f2 H v' H' l) (α := Nat × List Int × Hp) (fun q => n - q.1)
    (fun q => [(3, .ptr (.st X.dep 0) 0), (4, .ptr (.st X.dep 1) 0), (5, .ptr (.st X.dep 2) 0), (7, ov), (8, .int .i64 (q.1 : Int))])
    (fun q => (X.hp q.2.2).fr [.cells true [.int .i64 W.w, .int .i64 W.h, v], .cells true [.int .i64 f1, .int .i64 f2], .cells true [.int .i64 x, .int .i64 y, .int .i64 w, .int .i64 h]] none)
    (fun q => q.1 ≤ n ∧ Own iF q.2.2 ov q.2.1 ∧ q.2.1.length = n ∧ (∀ j, j < q.1 → q.2.1[j]? = some (-1)) ∧ Keep [] H q.2.2) ?_ (0, List.replicate n 0, H1) ⟨Nat.zero_le _, own, by simp, by simp, k1⟩
  clear own k1 hH1
  rintro ⟨i, l, Hc⟩ ⟨hi, ow, hlen, hj, kc⟩ ih
  dsimp only at hi ow hlen hj kc ⊢
  have so := ow.isSl iF_even
  have lo := ow.lies iF_even
  have hbo : ∀ i ∈ slFp ov, X.hb ≤ i := fun i hi => by have := fp i hi; omega
  have kS : Keep (slFp ov) H Hc → Keep [] H Hc := fun k => k.trans' (Keep.refl (slFp ov) _) (fun m hm hl => by have := fp m hm; have := k.1; omega) |>.weak (fun m hm hl => by have := fp m hm; omega)
  simp (maxDischargeDepth := 8) only [go_sem, hw, so.l, lo.len, hlen]
  by_cases hlt : i < n
  · obtain ⟨H2, st, o2, k2, l2⟩ := storeI ow (i := i) (by omega) X hbo (-1)
    simp (maxDischargeDepth := 8) only [go_sem, show decide ((i : Int) < (n : Int)) = true from decide_eq_true (by omega), hw, so.l, LiesD.iaddrI lo (i := (i : Int)) (by omega) (by omega), Int.toNat_natCast, st, wrap_succ (show i ≤ 4611686018427387903 by omega)]
    rw [KL_keep _ _ _ (by simp (maxDischargeDepth := 8) only [go_sem, so.l])]
    simp (maxDischargeDepth := 8) only [go_sem]
    refine ih (i + 1, l.set i (-1), H2) ⟨by dsimp only; omega, o2, by rw [List.length_set]; exact hlen, fun j hj2 => ?_, kc.trans' k2 (fun m hm hl => by have := fp m hm; omega)⟩ (by dsimp only; omega)
    dsimp only at hj2 ⊢
    rw [List.getElem?_set]
    by_cases e : i = j
    · rw [if_pos e, if_pos (by omega)]
    · rw [if_neg e]; exact hj j (by omega)
  · have ein : n = i := by omega
    subst ein
    clear ih
    have hrep : l = List.replicate n (-1) := by
      apply List.ext_getElem?
      intro j
      by_cases h1 : j < n
      · rw [hj j h1, List.getElem?_replicate, if_pos h1]
      · rw [List.getElem?_eq_none (by omega), List.getElem?_eq_none (by simp; omega)]
    have hvc : LiesD boolF (Hm Hc) v (W.gr cl sz) := hv.sub kc.sub
    simp (maxDischargeDepth := 8) only [go_sem, show decide ((n : Int) < (n : Int)) = false from decide_eq_false (by omega), hw, so.l, r_ref08_Ground_Stands hvc w1 w2, r_ref03_Has]
    cases hst : W.stands cl sz f1 f2 with
    | false =>
      simp (maxDischargeDepth := 8) only [go_sem, hw, so.l, so.c, so.k, so.o]
      subst hH
      exact ⟨_, _, _, rfl, ct_fin ⟨ow, fp, kc, by rw [hlen, hn], fun v hv => by rw [hrep] at hv; have := List.eq_of_mem_replicate hv; omega, fun _ => by rw [hrep, hn], fun h => by rw [hst] at h; cases h⟩⟩
    | true =>
      have hrs : (Bx.mk x y w h).has (f1, f2) = true := by rw [← bx_has hm]; exact hf
      obtain ⟨e1, e2, e3, e4⟩ := Bx.ix_lt hrs
      have hfb := Bx.has_iff.1 hrs
      dsimp only at e3 hfb
      obtain ⟨kx, hkx⟩ : ∃ kx, (Bx.mk x y w h).ix (f1, f2) = kx := ⟨_, rfl⟩
      rw [hkx] at e1 e3
      rw [hn] at e1
      have hmul : 0 ≤ (f2 - y) * w ∧ (f2 - y) * w ≤ 16384 := by
        refine ⟨Int.mul_nonneg (by omega) (by omega), ?_⟩
        have h1 : (f2 - y) * w ≤ 128 * w := Int.mul_le_mul_of_nonneg_right (by omega) (by omega)
        omega
      obtain ⟨H2, st, o2, k2, l2⟩ := storeI ow (i := kx) (by omega) X hbo 0
      have hIv := binv_new (ok := okR W cl sz x y w h) hrs
      rw [hn, hkx] at hIv
      rw [hrep] at o2
      simp (maxDischargeDepth := 8) only [go_sem, hw, so.l, so.c, so.k, so.o, r_ref03_Has, hf, wrap_small (x := f2 - y) (by omega) (by omega), wrap_small (x := (f2 - y) * w) (by omega) (by omega), wrap_small (x := (f2 - y) * w + f1) (by omega) (by omega), show (f2 - y) * w + f1 - x = (kx : Int) by omega, wrap_small (x := (kx : Int)) (by omega) (by omega), LiesD.iaddrI lo (i := (kx : Int)) (by omega) (by omega), Int.toNat_natCast, st]
      rw [KL_keep _ _ _ (by simp (maxDischargeDepth := 8) only [go_sem, so.l])]
      simp (maxDischargeDepth := 8) only [go_sem]
      refine KL_ind (R := fun z => ∃ v' H' l, fin [.t 6] X z = some (v', X.hp H') ∧ CtPost W cl sz x y w h f1 f2 H v' H' l) (α := Bool × List Int × Hp) (fun q => 2 * potL n q.2.1 + (if q.1 then 1 else 0))
        (fun q => [(3, .ptr (.st X.dep 0) 0), (5, .ptr (.st X.dep 2) 0), (7, ov), (9, .bool q.1)])
        (fun q => (X.hp q.2.2).fr [.cells true [.int .i64 W.w, .int .i64 W.h, v], .cells true [.int .i64 f1, .int .i64 f2], .cells true [.int .i64 x, .int .i64 y, .int .i64 w, .int .i64 h]] none)
        (fun q => Own iF q.2.2 ov q.2.1 ∧ Keep [] H q.2.2 ∧ BInv (okR W cl sz x y w h) (f1, f2) ⟨x, y, w, h⟩ q.2.1 ∧ (q.1 = false → ∀ i, i < n → ∀ d, isDir d = true → Rlx (okR W cl sz x y w h) ⟨x, y, w, h⟩ q.2.1 i d)) ?_ (true, (List.replicate n (-1)).set kx 0, H2) ⟨o2, kc.trans' k2 (fun m hm hl => by have := fp m hm; omega), hIv, fun h => (by cases h)⟩
      clear o2 k2 hIv st ow lo kc hvc hj hrep hlen
      rintro ⟨tn, l, Hc⟩ ⟨ow, kc, I, hR⟩ ih
      dsimp only at ow kc I hR ⊢
      have hdk : ∀ c d, okR W cl sz x y w h c d = true → isDir d = true ∧ (Bx.mk x y w h).has c = true ∧ (Bx.mk x y w h).has (mvC c d) = true := fun c d hk => by
        have h1 := (edg_ok W cl sz (fun c => hasB x y w h c.1 c.2)).dir c d hk
        simp only [okR, okS, Bool.and_eq_true] at hk
        have h2 := hk.1.1
        have h3 := hk.2
        rw [bx_has hm] at h2 h3
        exact ⟨h1, h2, h3⟩
      have lo := ow.lies iF_even
      have hlen : l.length = n := by rw [I.len, hn]
      cases tn with
      | false =>
        simp (maxDischargeDepth := 8) only [go_sem, hw, so.l, so.c, so.k, so.o]
        subst hH
        exact ⟨_, _, _, rfl, ct_fin ⟨ow, fp, kc, by rw [hlen, hn], fun v hv => by have h1 := I.bd v hv; have h2 := cntL_le l; omega, fun h => absurd (hst.symm.trans h) (by simp), fun _ => I.done hdk hrs fun i hi d hd => hR rfl i (by rw [← hn]; exact hi) d hd⟩⟩
      | true =>
        simp (maxDischargeDepth := 8) only [go_sem, hw, so.l, so.c, so.k, so.o]
        rw [KL_keep _ _ _ (by simp (maxDischargeDepth := 8) only [go_sem, so.l])]
        simp (maxDischargeDepth := 8) only [go_sem]
        refine KL_ind (R := fun z => ∃ v' H' l, fin [.t 6] X z = some (v', X.hp H') ∧ CtPost W cl sz x y w h f1 f2 H v' H' l) (α := Nat × Bool × List Int × Hp) (fun q => n - q.1)
          (fun q => [(3, .ptr (.st X.dep 0) 0), (5, .ptr (.st X.dep 2) 0), (7, ov), (9, .bool q.2.1), (10, .int .i64 (q.1 : Int))])
          (fun q => (X.hp q.2.2.2).fr [.cells true [.int .i64 W.w, .int .i64 W.h, v], .cells true [.int .i64 f1, .int .i64 f2], .cells true [.int .i64 x, .int .i64 y, .int .i64 w, .int .i64 h]] none)
          (fun q => q.1 ≤ n ∧ Own iF q.2.2.2 ov q.2.2.1 ∧ Keep [] H q.2.2.2 ∧ BInv (okR W cl sz x y w h) (f1, f2) ⟨x, y, w, h⟩ q.2.2.1 ∧ (q.2.1 = false → q.2.2.1 = l ∧ ∀ i, i < q.1 → ∀ d, isDir d = true → Rlx (okR W cl sz x y w h) ⟨x, y, w, h⟩ q.2.2.1 i d) ∧ (q.2.1 = true → potL n q.2.2.1 < potL n l)) ?_ (0, false, l, Hc) ⟨Nat.zero_le _, ow, kc, I, fun _ => ⟨rfl, fun i hi => by omega⟩, fun h => (by cases h)⟩
        clear hR ow kc I lo hlen
        rintro ⟨i, t, l', Hd⟩ ⟨hi, ow, kc, I, hF, hT⟩ ih2
        dsimp only at hi ow kc I hF hT ⊢
        have lo := ow.lies iF_even
        have hlen : l'.length = n := by rw [I.len, hn]
        simp (maxDischargeDepth := 8) only [go_sem, hw, so.l, lo.len, hlen]
        by_cases hlt : i < n
        · have hatb := Bx.at_has (r := Bx.mk x y w h) (i := i) (by rw [hn]; exact hlt)
          have hwt : w = (w.toNat : Int) := by omega
          have hw0 : (w = 0) = False := by simp; omega
          have hmod : (i : Int).tmod w = ((i % w.toNat : Nat) : Int) := by rw [hwt, Int.tmod_eq_emod_of_nonneg (by omega)]; simp
          have hdiv : (i : Int).tdiv w = ((i / w.toNat : Nat) : Int) := by rw [hwt, Int.tdiv_eq_ediv_of_nonneg (by omega)]; simp
          have hm1 : i % w.toNat < w.toNat := Nat.mod_lt _ (by omega)
          have hm2 : i / w.toNat < h.toNat := by rw [Nat.div_lt_iff_lt_mul (by omega), Nat.mul_comm]; rw [← hn] at hlt; exact hlt
          obtain ⟨a, ha⟩ : ∃ a : Int, x + ((i % w.toNat : Nat) : Int) = a := ⟨_, rfl⟩
          obtain ⟨b, hb⟩ : ∃ b : Int, y + ((i / w.toNat : Nat) : Int) = b := ⟨_, rfl⟩
          have hab : (Bx.mk x y w h).at i = (a, b) := by unfold Bx.at; dsimp only; rw [ha, hb]
          rw [hab] at hatb
          generalize i % w.toNat = q1 at hmod hm1 ha
          generalize i / w.toNat = q2 at hdiv hm2 hb
          simp (maxDischargeDepth := 8) only [go_sem, show decide ((i : Int) < (n : Int)) = true from decide_eq_true (by omega), hw, so.l, hw0, hmod, hdiv, ha, hb, wrap_small (x := a) (by omega) (by omega), wrap_small (x := b) (by omega) (by omega), wrap_small (x := ((q2 : Nat) : Int)) (by omega) (by omega)]
          rw [KL_keep _ _ _ (by simp (maxDischargeDepth := 8) only [go_sem, so.l])]
          simp (maxDischargeDepth := 8) only [go_sem]
          refine KL_ind (R := fun z => ∃ v' H' l, fin [.t 6] X z = some (v', X.hp H') ∧ CtPost W cl sz x y w h f1 f2 H v' H' l) (α := Nat × Bool × List Int × Hp) (fun q => 9 - q.1)
            (fun q => [(3, .ptr (.st X.dep 0) 0), (5, .ptr (.st X.dep 2) 0), (7, ov), (9, .bool q.2.1), (10, .int .i64 (i : Int)), (11, .ptr (.st X.dep 3) 0), (12, .int .i64 (q.1 : Int))])
            (fun q => (X.hp q.2.2.2).fr [.cells true [.int .i64 W.w, .int .i64 W.h, v], .cells true [.int .i64 f1, .int .i64 f2], .cells true [.int .i64 x, .int .i64 y, .int .i64 w, .int .i64 h], .cells true [.int .i64 a, .int .i64 b]] none)
            (fun q => q.1 ≤ 8 ∧ Own iF q.2.2.2 ov q.2.2.1 ∧ Keep [] H q.2.2.2 ∧ BInv (okR W cl sz x y w h) (f1, f2) ⟨x, y, w, h⟩ q.2.2.1 ∧ (q.2.1 = false → q.2.2.1 = l ∧ (∀ i', i' < i → ∀ d, isDir d = true → Rlx (okR W cl sz x y w h) ⟨x, y, w, h⟩ q.2.2.1 i' d) ∧ ∀ d, isDir d = true → d < (q.1 : Int) → Rlx (okR W cl sz x y w h) ⟨x, y, w, h⟩ q.2.2.1 i d) ∧ (q.2.1 = true → potL n q.2.2.1 < potL n l)) ?_ (0, t, l', Hd) ⟨Nat.zero_le _, ow, kc, I, fun h => ⟨(hF h).1, (hF h).2, fun d hd1 hd2 => by simp [isDir] at hd1; dsimp only at hd2; omega⟩, hT⟩
          clear hF hT ow kc I lo hlen
          rintro ⟨d, t, l', He⟩ ⟨hd8, ow, kc, I, hF, hT⟩ ih3
          dsimp only at hd8 ow kc I hF hT ⊢
          have lo := ow.lies iF_even
          have hlen : l'.length = n := by rw [I.len, hn]
          obtain ⟨vi, hvi⟩ : ∃ vi, l'[i]? = some vi := ⟨_, List.getElem?_eq_getElem (by omega)⟩
          have hbd := I.bd vi (List.mem_of_getElem? hvi)
          have hlov := I.lo vi (List.mem_of_getElem? hvi)
          have hcn := cntL_le l'
          have ia := LiesD.iaddrI lo (i := (i : Int)) (by omega) (by omega)
          simp only [Int.toNat_natCast] at ia
          have go2 : (t = false → l' = l ∧ (∀ i', i' < i + 1 → ∀ d, isDir d = true → Rlx (okR W cl sz x y w h) ⟨x, y, w, h⟩ l' i' d)) → ∃ v' H' l, fin [.t 6] X (KL tb [KI.block 4, KI.block 3, KI.loop 3 (some [3, 5, 7, 9]) s_ref08_Ground_Costs_p25, KI.block 2, KI.kp [7], KI.seq ((SCode.region false [{ dst := some 151, op := SOp.mv (Opd.t 7), guard := none, quiet := false }, { dst := some 6, op := SOp.mv (Opd.t 151), guard := none, quiet := false }]).seq SCode.ret)] 3 (some [3, 5, 7, 9, 10]) s_ref08_Ground_Costs_p23
              [(3, .ptr (.st X.dep 0) 0), (5, .ptr (.st X.dep 2) 0), (7, ov), (9, .bool t), (10, .int .i64 ((i + 1 : Nat) : Int))]
              ((X.hp He).fr [.cells true [.int .i64 W.w, .int .i64 W.h, v], .cells true [.int .i64 f1, .int .i64 f2], .cells true [.int .i64 x, .int .i64 y, .int .i64 w, .int .i64 h]] none)) = some (v', X.hp H') ∧ CtPost W cl sz x y w h f1 f2 H v' H' l := fun hq =>
            ih2 (i + 1, t, l', He) ⟨by dsimp only; omega, ow, kc, I, hq, hT⟩ (by dsimp only; omega)
          have hvc := hv.sub kc.sub
          have exit2 : (t = false → ∀ d', isDir d' = true → Rlx (okR W cl sz x y w h) ⟨x, y, w, h⟩ l' i d') → t = false → l' = l ∧ (∀ i', i' < i + 1 → ∀ d, isDir d = true → Rlx (okR W cl sz x y w h) ⟨x, y, w, h⟩ l' i' d) := fun hq ht => ⟨(hF ht).1, fun i' hi' d' hd' => by
            by_cases e : i' = i
            · subst e; exact hq ht d' hd'
            · exact (hF ht).2.1 i' (by omega) d' hd'⟩
          have next3 : (t = false → isDir (d : Int) = true → Rlx (okR W cl sz x y w h) ⟨x, y, w, h⟩ l' i (d : Int)) → t = false → l' = l ∧ (∀ i', i' < i → ∀ d, isDir d = true → Rlx (okR W cl sz x y w h) ⟨x, y, w, h⟩ l' i' d) ∧ ∀ d', isDir d' = true → d' < ((d + 1 : Nat) : Int) → Rlx (okR W cl sz x y w h) ⟨x, y, w, h⟩ l' i d' := fun hq ht => ⟨(hF ht).1, (hF ht).2.1, fun d' h1 h2 => by
            by_cases e : d' = (d : Int)
            · subst e; exact hq ht h1
            · exact (hF ht).2.2 d' h1 (by omega)⟩
          simp (maxDischargeDepth := 8) only [go_sem, hw, so.l, ia, lo.loadI hvi]
          by_cases hv0 : 0 ≤ vi
          · simp (maxDischargeDepth := 8) only [go_sem, show decide (vi ≥ 0) = true from decide_eq_true hv0, hw, so.l]
            by_cases hd : d < 8
            · have hst8 := fun {Y : Mem} (hX : HpSub (Hm He) Y) (hwY : Y.Wf) (x y d : Int) => r_ref08_Ground_Steps hvc w1 w2 (cl := cl) (sz := sz) hX hwY x y d
              have hokd : okR W cl sz x y w h (a, b) (d : Int) = (W.steps cl sz a b d && hasB x y w h (a + turnX d) (b + turnY d)) := by
                have h1 := hatb.1
                rw [← bx_has hm] at h1
                simp only [okR, okS, mvC, h1, Bool.true_and]
              cases hs : W.steps cl sz a b d with
              | false =>
                simp (maxDischargeDepth := 8) only [go_sem, show decide ((d : Int) < 8) = true from decide_eq_true (by omega), hw, so.l, hst8, hs, wrap_succ (show d ≤ 4611686018427387903 by omega)]
                rw [KL_keep _ _ _ (by simp (maxDischargeDepth := 8) only [go_sem, so.l])]
                simp (maxDischargeDepth := 8) only [go_sem]
                refine ih3 (d + 1, t, l', He) ⟨by dsimp only; omega, ow, kc, I, next3 (fun _ _ => ?_), hT⟩ (by dsimp only; omega)
                intro v1 _ _ hk
                rw [hab, hokd, hs, Bool.false_and] at hk
                cases hk
              | true =>
                cases hh2 : hasB x y w h (a + turnX d) (b + turnY d) with
                | false =>
                  simp (maxDischargeDepth := 8) only [go_sem, show decide ((d : Int) < 8) = true from decide_eq_true (by omega), hw, so.l, hst8, hs, r_ref03_Has, hh2, wrap_succ (show d ≤ 4611686018427387903 by omega)]
                  rw [KL_keep _ _ _ (by simp (maxDischargeDepth := 8) only [go_sem, so.l])]
                  simp (maxDischargeDepth := 8) only [go_sem]
                  refine ih3 (d + 1, t, l', He) ⟨by dsimp only; omega, ow, kc, I, next3 (fun _ _ => ?_), hT⟩ (by dsimp only; omega)
                  intro v1 _ _ hk
                  rw [hab, hokd, hh2, Bool.and_false] at hk
                  cases hk
                | true =>
                  have hk : okR W cl sz x y w h (a, b) (d : Int) = true := by rw [hokd, hs, hh2]; rfl
                  have hrk : (Bx.mk x y w h).has (a + turnX d, b + turnY d) = true := by rw [← bx_has hm]; exact hh2
                  obtain ⟨p1, p2, p3, p4⟩ := Bx.ix_lt hrk
                  have hfb2 := Bx.has_iff.1 hrk
                  dsimp only at p3 hfb2
                  obtain ⟨kx, hkx⟩ : ∃ kx, (Bx.mk x y w h).ix (a + turnX d, b + turnY d) = kx := ⟨_, rfl⟩
                  rw [hkx] at p1 p3
                  rw [hn] at p1
                  have hmul : 0 ≤ (b + turnY d - y) * w ∧ (b + turnY d - y) * w ≤ 16384 := by
                    refine ⟨Int.mul_nonneg (by omega) (by omega), ?_⟩
                    have h1 : (b + turnY d - y) * w ≤ 128 * w := Int.mul_le_mul_of_nonneg_right (by omega) (by omega)
                    omega
                  obtain ⟨vk, hvk⟩ : ∃ vk, l'[kx]? = some vk := ⟨_, List.getElem?_eq_getElem (by omega)⟩
                  have ik := LiesD.iaddrI lo (i := (kx : Int)) (by omega) (by omega)
                  simp only [Int.toNat_natCast] at ik
                  have hcd := cost_pos (hdk _ _ hk).1
                  have wv : IntKind.wrap .i64 (vi + costP d) = vi + costP d := wrap_small (by omega) (by omega)
                  simp (maxDischargeDepth := 8) only [go_sem, show decide ((d : Int) < 8) = true from decide_eq_true (by omega), hw, so.l, hst8, hs, r_ref03_Has, hh2, wrap_small (x := b + turnY d - y) (by omega) (by omega), wrap_small (x := (b + turnY d - y) * w) (by omega) (by omega), wrap_small (x := (b + turnY d - y) * w + (a + turnX d)) (by omega) (by omega), show (b + turnY d - y) * w + (a + turnX d) - x = (kx : Int) by omega, wrap_small (x := (kx : Int)) (by omega) (by omega), ia, lo.loadI hvi, r_ref03_Cost, wv, ik, lo.loadI hvk]
                  have turn : vk < 0 ∨ vi + costP d < vk → ∃ H2, (∀ f e, ((X.hp He).fr f e).store (.hp (slN ov) (slW ov)) (slO ov + kx) [.int .i64 (vi + costP d)] = some ((X.hp H2).fr f e)) ∧ ∃ v' H' l, fin [.t 6] X (KL tb [KI.block 6, KI.block 5, KI.kp [3, 5, 7, 9, 10], KI.seq (SCode.region false [{ dst := some 66, op := SOp.mv (Opd.t 10), guard := none, quiet := false }, { dst := some 67, op := SOp.bin BinOp.add (Opd.t 66) (Opd.v (SV.int IntKind.i64 1)), guard := none, quiet := false }, { dst := some 10, op := SOp.mv (Opd.t 67), guard := none, quiet := false }]), KI.loop 3 (some [3, 5, 7, 9, 10]) s_ref08_Ground_Costs_p23, KI.block 4, KI.block 3, KI.loop 3 (some [3, 5, 7, 9]) s_ref08_Ground_Costs_p25, KI.block 2, KI.kp [7], KI.seq ((SCode.region false [{ dst := some 151, op := SOp.mv (Opd.t 7), guard := none, quiet := false }, { dst := some 6, op := SOp.mv (Opd.t 151), guard := none, quiet := false }]).seq SCode.ret)]
                      4 (some [3, 5, 7, 9, 10, 11, 12]) s_ref08_Ground_Costs_p20 [(3, .ptr (.st X.dep 0) 0), (5, .ptr (.st X.dep 2) 0), (7, ov), (9, .bool true), (10, .int .i64 (i : Int)), (11, .ptr (.st X.dep 3) 0), (12, .int .i64 ((d + 1 : Nat) : Int))]
                      ((X.hp H2).fr [.cells true [.int .i64 W.w, .int .i64 W.h, v], .cells true [.int .i64 f1, .int .i64 f2], .cells true [.int .i64 x, .int .i64 y, .int .i64 w, .int .i64 h], .cells true [.int .i64 a, .int .i64 b]] none)) = some (v', X.hp H') ∧ CtPost W cl sz x y w h f1 f2 H v' H' l := fun hcond => by
                    obtain ⟨H2, st, o2, k2, l2⟩ := storeI ow (i := kx) (by omega) X hbo (vi + costP d)
                    obtain ⟨I2, hpot⟩ := I.relax hdk (i := i) (by rw [hn]; exact hlt) (d := d) (v := vi) (x := vk) hvi hv0 (by rw [hab]; exact hk) (by rw [hab]; show l'[(Bx.mk x y w h).ix (a + turnX d, b + turnY d)]? = _; rw [hkx]; exact hvk) hcond
                    rw [hab] at I2 hpot
                    change BInv _ _ _ (l'.set ((Bx.mk x y w h).ix (a + turnX d, b + turnY d)) _) at I2
                    change potL _ (l'.set ((Bx.mk x y w h).ix (a + turnX d, b + turnY d)) _) < _ at hpot
                    rw [hkx] at I2 hpot
                    rw [hn] at hpot
                    refine ⟨H2, st, ih3 (d + 1, true, l'.set kx (vi + costP d), H2) ⟨by dsimp only; omega, o2, kc.trans' k2 (fun m hm hl => by have := fp m hm; omega), I2, fun h => (by cases h), fun _ => ?_⟩ (by dsimp only; omega)⟩
                    dsimp only
                    cases t with
                    | false => rw [← (hF rfl).1]; exact hpot
                    | true => exact Nat.lt_trans hpot (hT rfl)
                  by_cases hv1 : vk < 0
                  · obtain ⟨H2, st, g⟩ := turn (.inl hv1)
                    simp (maxDischargeDepth := 8) only [go_sem, show decide (vk < 0) = true from decide_eq_true hv1, hw, so.l, ik, st, wrap_succ (show d ≤ 4611686018427387903 by omega)]
                    rw [KL_keep _ _ _ (by simp (maxDischargeDepth := 8) only [go_sem, so.l])]
                    simp (maxDischargeDepth := 8) only [go_sem]
                    exact g
                  · by_cases hv2 : vi + costP d < vk
                    · obtain ⟨H2, st, g⟩ := turn (.inr hv2)
                      simp (maxDischargeDepth := 8) only [go_sem, show decide (vk < 0) = false from decide_eq_false hv1, hw, so.l, ik, lo.loadI hvk]
                      simp (maxDischargeDepth := 8) only [go_sem, show decide (vi + costP d < vk) = true from decide_eq_true hv2, hw, so.l, ik, st, wrap_succ (show d ≤ 4611686018427387903 by omega)]
                      rw [KL_keep _ _ _ (by simp (maxDischargeDepth := 8) only [go_sem, so.l])]
                      simp (maxDischargeDepth := 8) only [go_sem]
                      exact g
                    · simp (maxDischargeDepth := 8) only [go_sem, show decide (vk < 0) = false from decide_eq_false hv1, hw, so.l, ik, lo.loadI hvk]
                      simp (maxDischargeDepth := 8) only [go_sem, show decide (vi + costP d < vk) = false from decide_eq_false hv2, hw, so.l, wrap_succ (show d ≤ 4611686018427387903 by omega)]
                      rw [KL_keep _ _ _ (by simp (maxDischargeDepth := 8) only [go_sem, so.l])]
                      simp (maxDischargeDepth := 8) only [go_sem]
                      refine ih3 (d + 1, t, l', He) ⟨by dsimp only; omega, ow, kc, I, next3 (fun _ _ => ?_), hT⟩ (by dsimp only; omega)
                      intro v1 h1 _ _
                      rw [hvi] at h1; cases h1
                      rw [hab]
                      exact ⟨vk, by show l'[(Bx.mk x y w h).ix (a + turnX d, b + turnY d)]? = _; rw [hkx]; exact hvk, by omega, by omega⟩
            · simp (maxDischargeDepth := 8) only [go_sem, show decide ((d : Int) < 8) = false from decide_eq_false (by omega), hw, so.l, wrap_succ (show i ≤ 4611686018427387903 by omega)]
              rw [KL_keep _ _ _ (by simp (maxDischargeDepth := 8) only [go_sem, so.l])]
              simp (maxDischargeDepth := 8) only [go_sem]
              exact go2 (exit2 fun ht d' hd' => (hF ht).2.2 d' hd' (by simp [isDir] at hd'; omega))
          · simp (maxDischargeDepth := 8) only [go_sem, show decide (vi ≥ 0) = false from decide_eq_false hv0, hw, so.l, wrap_succ (show i ≤ 4611686018427387903 by omega)]
            rw [KL_keep _ _ _ (by simp (maxDischargeDepth := 8) only [go_sem, so.l])]
            simp (maxDischargeDepth := 8) only [go_sem]
            exact go2 (exit2 fun _ d' _ v1 h1 h2 _ => by rw [hvi] at h1; cases h1; exact absurd h2 hv0)
        · have ein : n = i := by omega
          subst ein
          simp (maxDischargeDepth := 8) only [go_sem, show decide ((n : Int) < (n : Int)) = false from decide_eq_false (by omega), hw, so.l]
          rw [KL_keep _ _ _ (by simp (maxDischargeDepth := 8) only [go_sem, so.l])]
          simp (maxDischargeDepth := 8) only [go_sem]
          refine ih (t, l', Hd) ⟨ow, kc, I, fun h i hi d hd => (hF h).2 i hi d hd⟩ ?_
          dsimp only
          cases t with
          | false => rw [(hF rfl).1]; simp
          | true => have := hT rfl; simp; omega
theorem meet_box {x y w h ww hh : Int} (w1 : 1 ≤ ww ∧ ww ≤ 128) (w2 : 1 ≤ hh ∧ hh ≤ 128) (hm : meetB x y w h 0 0 ww hh = true) :
    ∃ mx my mw mh, meetV x y w h 0 0 ww hh = rect mx my mw mh ∧ mayB mx my mw mh = true ∧ (0 ≤ mx ∧ 1 ≤ mw ∧ mx + mw ≤ 128) ∧ (0 ≤ my ∧ 1 ≤ mh ∧ my + mh ≤ 128) ∧ ∀ a b, hasB mx my mw mh a b = (hasB x y w h a b && hasB 0 0 ww hh a b) := by
  have hm' := hm
  simp only [meetB, Bool.and_eq_true, decide_eq_true_eq] at hm'
  obtain ⟨⟨m1, m2⟩, m3, m4⟩ := hm'
  obtain ⟨a1, a2, a3, a4⟩ := may_in m1
  obtain ⟨b1, b2, b3, b4⟩ := may_in m2
  have l1 := may_last m1
  have l2 := may_last m2
  rw [meet_yes hm, wl1 (mn_in a3 b3) (mx_in a1 b1), wl1 (mn_in a4 b4) (mx_in a2 b2)]
  rw [l1.1, l2.1] at m3
  rw [l1.2, l2.2] at m4
  rw [l1.1, l2.1, l1.2, l2.2]
  have e1 : ∀ p q : Int, (mxI p q = p ∨ mxI p q = q) ∧ p ≤ mxI p q ∧ q ≤ mxI p q := fun p q => by unfold mxI; split <;> omega
  have e2 : ∀ p q : Int, (mnI p q = p ∨ mnI p q = q) ∧ mnI p q ≤ p ∧ mnI p q ≤ q := fun p q => by unfold mnI; split <;> omega
  have f1 := e1 x 0
  have f2 := e1 y 0
  have g1 := e2 (x + w - 1) (0 + ww - 1)
  have g2 := e2 (y + h - 1) (0 + hh - 1)
  generalize mxI x 0 = mx at *
  generalize mxI y 0 = my at *
  generalize mnI (x + w - 1) (0 + ww - 1) = nx at *
  generalize mnI (y + h - 1) (0 + hh - 1) = ny at *
  have hmay : mayB mx my (nx - mx + 1) (ny - my + 1) = true := by
    have q1 : lastX mx (nx - mx + 1) = nx := by unfold lastX; rw [wrap_small (x := mx + (nx - mx + 1)) (by omega) (by omega), wrap_small (by omega) (by omega)]; omega
    have q2 : lastX my (ny - my + 1) = ny := by unfold lastX; rw [wrap_small (x := my + (ny - my + 1)) (by omega) (by omega), wrap_small (by omega) (by omega)]; omega
    simp only [mayB, nearC, nearP, sideB, q1, q2, Bool.and_eq_true, decide_eq_true_eq]
    omega
  refine ⟨mx, my, nx - mx + 1, ny - my + 1, rfl, hmay, by omega, by omega, fun a b => ?_⟩
  rw [Bool.eq_iff_iff, Bool.and_eq_true, has_iff, has_iff, has_iff]
  simp only [hmay, m1, m2, true_and]
  omega
theorem r_ref08_at {m : Mem} {v : SV} {l : List Int} (hl : LiesD iF m v l) {x y w h a b vk : Int} (hx : 0 ≤ x ∧ 1 ≤ w ∧ x + w ≤ 128) (hy : 0 ≤ y ∧ 1 ≤ h ∧ y + h ≤ 128) (hlen : l.length = (Bx.mk x y w h).n) (hr : (Bx.mk x y w h).has (a, b) = true) (hvk : l[(Bx.mk x y w h).ix (a, b)]? = some vk) {X : Mem} (hX : HpSub m X) (hw : X.Wf) :
    RF tb f_ref08_at [v, rect x y w h, cellV a b] X = some (.int .i64 vk, X) := by
  obtain ⟨p1, p2, p3, p4⟩ := Bx.ix_lt hr
  have hfb2 := Bx.has_iff.1 hr
  dsimp only at p3 hfb2
  have hn2 : (Bx.mk x y w h).n ≤ 16384 := by show w.toNat * h.toNat ≤ 16384; exact Nat.mul_le_mul (show w.toNat ≤ 128 by omega) (show h.toNat ≤ 128 by omega)
  generalize (Bx.mk x y w h).ix (a, b) = kx at *
  have hmul : 0 ≤ (b - y) * w ∧ (b - y) * w ≤ 16384 := by
    refine ⟨Int.mul_nonneg (by omega) (by omega), ?_⟩
    have h1 : (b - y) * w ≤ 128 * w := Int.mul_le_mul_of_nonneg_right (by omega) (by omega)
    omega
  have hkl : kx < l.length := by omega
  have ik := LiesD.iaddrI hl (i := (kx : Int)) (by omega) (by omega)
  simp only [Int.toNat_natCast] at ik
  have sv := hl.isSl
  rw [RF_go t_ref08_at _ _ rfl]
  simp (maxDischargeDepth := 8) only [go_sem, s_ref08_at, cellV, rect, hw, hX, sv.l, wrap_small (x := b - y) (by omega) (by omega), wrap_small (x := (b - y) * w) (by omega) (by omega), wrap_small (x := (b - y) * w + a) (by omega) (by omega), show (b - y) * w + a - x = (kx : Int) by omega, wrap_small (x := (kx : Int)) (by omega) (by omega), ik, hl.loadI hvk]
theorem meet_of_has {x y w h ww hh a b : Int} (h1 : hasB x y w h a b = true) (h2 : hasB 0 0 ww hh a b = true) : meetB x y w h 0 0 ww hh = true := by
  have g1 := has_iff.1 h1
  have g2 := has_iff.1 h2
  have l1 := may_last g1.1
  have l2 := may_last g2.1
  simp only [meetB, g1.1, g2.1, Bool.and_eq_true, decide_eq_true_eq, true_and, l1.1, l1.2, l2.1, l2.2]
  have e1 : ∀ p q : Int, (mxI p q = p ∨ mxI p q = q) := fun p q => by unfold mxI; split <;> omega
  have e2 : ∀ p q : Int, (mnI p q = p ∨ mnI p q = q) := fun p q => by unfold mnI; split <;> omega
  have := e1 x 0
  have := e1 y 0
  have := e2 (x + w - 1) (0 + ww - 1)
  have := e2 (y + h - 1) (0 + hh - 1)
  omega
theorem okR_eq {W : Wd} {cl sz x y w h mx my mw mh : Int} (hh : ∀ a b, hasB mx my mw mh a b = (hasB x y w h a b && hasB 0 0 W.w W.h a b)) : okR W cl sz mx my mw mh = okR W cl sz x y w h := by
  funext c d
  simp only [okR, okS, hh]
  cases hs : W.steps cl sz c.1 c.2 d with
  | false => simp
  | true =>
    have h2 := hs
    simp only [Wd.steps, Bool.and_eq_true] at h2
    have s1 := (stands_in h2.1.1.2).2.2.2.1
    have s2 := (stands_in h2.1.2).2.2.2.1
    unfold Wd.has at s1 s2
    have s2' : hasB 0 0 W.w W.h (mvC c d).1 (mvC c d).2 = true := s2
    rw [s1, s2', Bool.and_true, Bool.and_true]
    try simp
/-- The blocks of Find's frame, but for the current cell's. -/
def gfB (W : Wd) (v : SV) (f1 f2 t1 t2 ax ay aw ah mx my mw mh : Int) (hv : SV) (jl : List SBk) : List SBk := [.cells true [.int .i64 W.w, .int .i64 W.h, v], .cells true [.int .i64 f1, .int .i64 f2], .cells true [.int .i64 t1, .int .i64 t2], .cells true [.int .i64 ax, .int .i64 ay, .int .i64 aw, .int .i64 ah], .cells true [.int .i64 0, .nils], .cells true [.int .i64 2, .nils], .cells true [.int .i64 mx, .int .i64 my, .int .i64 mw, .int .i64 mh], .cells true [.int .i64 1, hv]] ++ jl
section
variable (W : Wd) (v : SV) (f1 f2 t1 t2 ax ay aw ah mx my mw mh : Int) (hv : SV) (jl : List SBk)
theorem gfB_0 (c : List SBk) : (gfB W v f1 f2 t1 t2 ax ay aw ah mx my mw mh hv jl ++ c)[0]? = some (.cells true [.int .i64 W.w, .int .i64 W.h, v]) := rfl
theorem gfB_2 (c : List SBk) : (gfB W v f1 f2 t1 t2 ax ay aw ah mx my mw mh hv jl ++ c)[2]? = some (.cells true [.int .i64 t1, .int .i64 t2]) := rfl
theorem gfB_4 (c : List SBk) : (gfB W v f1 f2 t1 t2 ax ay aw ah mx my mw mh hv jl ++ c)[4]? = some (.cells true [.int .i64 0, .nils]) := rfl
theorem gfB_6 (c : List SBk) : (gfB W v f1 f2 t1 t2 ax ay aw ah mx my mw mh hv jl ++ c)[6]? = some (.cells true [.int .i64 mx, .int .i64 my, .int .i64 mw, .int .i64 mh]) := rfl
theorem gfB_7 (c : List SBk) : (gfB W v f1 f2 t1 t2 ax ay aw ah mx my mw mh hv jl ++ c)[7]? = some (.cells true [.int .i64 1, hv]) := rfl
theorem gfB_len : (gfB W v f1 f2 t1 t2 ax ay aw ah mx my mw mh hv jl).length = 8 + jl.length := by simp [gfB]; omega
theorem gfB_i (c : SBk) (r : List SBk) : (gfB W v f1 f2 t1 t2 ax ay aw ah mx my mw mh hv jl ++ c :: r)[8 + jl.length]? = some c := by rw [← gfB_len W v f1 f2 t1 t2 ax ay aw ah mx my mw mh hv jl]; simp
theorem gfB_n (c d : SBk) : (gfB W v f1 f2 t1 t2 ax ay aw ah mx my mw mh hv jl ++ [c, d])[8 + jl.length + 1]? = some d := by rw [← gfB_len W v f1 f2 t1 t2 ax ay aw ah mx my mw mh hv jl]; simp
theorem gfB_si (c d : SBk) (r : List SBk) : (gfB W v f1 f2 t1 t2 ax ay aw ah mx my mw mh hv jl ++ c :: r).set (8 + jl.length) d = gfB W v f1 f2 t1 t2 ax ay aw ah mx my mw mh hv jl ++ d :: r := by rw [← gfB_len W v f1 f2 t1 t2 ax ay aw ah mx my mw mh hv jl, List.set_append_right _ _ (Nat.le_refl _), Nat.sub_self]; rfl
theorem gfB_sn (c d x : SBk) : (gfB W v f1 f2 t1 t2 ax ay aw ah mx my mw mh hv jl ++ [c, d]).set (8 + jl.length + 1) x = gfB W v f1 f2 t1 t2 ax ay aw ah mx my mw mh hv jl ++ [c, x] := by rw [← gfB_len W v f1 f2 t1 t2 ax ay aw ah mx my mw mh hv jl, List.set_append_right _ _ (Nat.le_succ _)]; simp
theorem gfB_s7 (c : List SBk) (hv2 : SV) : (gfB W v f1 f2 t1 t2 ax ay aw ah mx my mw mh hv jl ++ c).set 7 (.cells true [.int .i64 1, hv2]) = gfB W v f1 f2 t1 t2 ax ay aw ah mx my mw mh hv2 jl ++ c := rfl
theorem gfB_s4 (c : List SBk) (u : List SV) : (gfB W v f1 f2 t1 t2 ax ay aw ah mx my mw mh hv jl ++ c).set 4 (.cells true u) = [.cells true [.int .i64 W.w, .int .i64 W.h, v], .cells true [.int .i64 f1, .int .i64 f2], .cells true [.int .i64 t1, .int .i64 t2], .cells true [.int .i64 ax, .int .i64 ay, .int .i64 aw, .int .i64 ah], .cells true u, .cells true [.int .i64 2, .nils], .cells true [.int .i64 mx, .int .i64 my, .int .i64 mw, .int .i64 mh], .cells true [.int .i64 1, hv]] ++ (jl ++ c) := rfl
theorem gfB_ap (c d : SBk) : gfB W v f1 f2 t1 t2 ax ay aw ah mx my mw mh hv jl ++ [c] ++ [d] = gfB W v f1 f2 t1 t2 ax ay aw ah mx my mw mh hv jl ++ [c, d] := by simp
theorem gfB_new2 (c d x : SBk) : gfB W v f1 f2 t1 t2 ax ay aw ah mx my mw mh hv jl ++ [c, d] ++ [x] = gfB W v f1 f2 t1 t2 ax ay aw ah mx my mw mh hv (jl ++ [c, d]) ++ [x] := by simp [gfB]
theorem gfB_l2 (c d : SBk) : (gfB W v f1 f2 t1 t2 ax ay aw ah mx my mw mh hv jl ++ [c, d]).length = 8 + (jl ++ [c, d]).length := by simp [gfB]; omega
theorem gfB_l1 (c : SBk) : (gfB W v f1 f2 t1 t2 ax ay aw ah mx my mw mh hv jl ++ [c]).length = 8 + jl.length + 1 := by simp [gfB]; omega
theorem gfB_t1 (c : SBk) (r : List SBk) : (gfB W v f1 f2 t1 t2 ax ay aw ah mx my mw mh hv jl ++ c :: r).take (8 + jl.length + 1) = gfB W v f1 f2 t1 t2 ax ay aw ah mx my mw mh hv jl ++ [c] := by
  rw [← gfB_len W v f1 f2 t1 t2 ax ay aw ah mx my mw mh hv jl]; simp only [List.take_append, Nat.add_sub_cancel_left]; rw [List.take_of_length_le (Nat.le_succ _)]; rfl
end
theorem gfind_loop {X : Mem} {H HC : Hp} (hH : X.heap = H) {v : SV} {W : Wd} {cl sz : Int} (hv : LiesD boolF (Hm H) v (W.gr cl sz)) (w1 : 1 ≤ W.w ∧ W.w ≤ 128) (w2 : 1 ≤ W.h ∧ W.h ≤ 128) (hw : X.Wf) (hhb : X.hb ≤ X.hl) {f1 f2 t1 t2 ax ay aw ah mx my mw mh : Int}
    (hmm : mayB mx my mw mh = true) (hmx : 0 ≤ mx ∧ 1 ≤ mw ∧ mx + mw ≤ 128) (hmy : 0 ≤ my ∧ 1 ≤ mh ∧ my + mh ≤ 128) (hmh : ∀ a b, hasB mx my mw mh a b = (hasB ax ay aw ah a b && hasB 0 0 W.w W.h a b)) {cv : SV} {cs : List Int} (oc : Own iF HC cv cs) (kC : Keep [] H HC) (lc : cs.length = (Bx.mk mx my mw mh).n)
    (hat : ∀ {a b : Int} (hh : hasB mx my mw mh a b = true), ∃ w, cs[(Bx.mk mx my mw mh).ix (a, b)]? = some w ∧ -1 ≤ w ∧ w ≤ 14 * 16384 ∧ ((0 ≤ w ∧ Mn (okR W cl sz ax ay aw ah) (t1, t2) (a, b) w) ∨ (w = -1 ∧ ∀ u, ¬ Pth (okR W cl sz ax ay aw ah) (t1, t2) (a, b) u)))
    (hvd : Vd W cl sz ax ay aw ah f1 f2 t1 t2 = true) {v0 : Int} (hv0 : v0 ≤ 14 * 16384) (hMn : Mn (okR W cl sz ax ay aw ah) (t1, t2) (f1, f2) v0) :
    ∃ H' u o v' l c, fin [.cell 8 (some 2), .t 9] X (KL tb [KI.block 0, KI.kp [8, 14, 15], KI.seq (s_ref08_Ground_Find_p24.seq SCode.ret)] 9 none s_ref08_Ground_Find_p23
      [(4, .ptr (.st X.dep 0) 0), (6, .ptr (.st X.dep 2) 0), (8, .ptr (.st X.dep 4) 0), (11, .ptr (.st X.dep 6) 0), (13, cv), (14, .ptr (.st X.dep 7) 0), (15, .int .i64 v0), (16, .ptr (.st X.dep 8) 0)]
      ((X.hp HC).fr [.cells true [.int .i64 W.w, .int .i64 W.h, v], .cells true [.int .i64 f1, .int .i64 f2], .cells true [.int .i64 t1, .int .i64 t2], .cells true [.int .i64 ax, .int .i64 ay, .int .i64 aw, .int .i64 ah], .cells true [.int .i64 0, .nils], .cells true [.int .i64 2, .nils], .cells true [.int .i64 mx, .int .i64 my, .int .i64 mw, .int .i64 mh], .cells true [.int .i64 1, .nils], .cells true [.int .i64 f1, .int .i64 f2]] none)) = some (.tup [.agg [.int .i64 o, v'], .int .i64 c], (X.hp H').es (escMin X.esc u)) ∧ Keep [] H H' ∧ Own cellF H' v' l ∧ (∀ i ∈ slFp v', H.length ≤ i) ∧ WayRes W cl sz ax ay aw ah f1 f2 t1 t2 16384 o l c := by
  have hE := edg_ok W cl sz (fun c => hasB ax ay aw ah c.1 c.2)
  have hHl : X.hl = H.length := by rw [← hH]; rfl
  have hbx : ∀ {a b : Int}, hasB mx my mw mh a b = true → (Bx.mk mx my mw mh).has (a, b) = true := fun h => by rw [← bx_has hmm]; exact h
  have hrat := fun {m : Mem} (hl : LiesD iF m cv cs) {a b vk : Int} (hr : hasB mx my mw mh a b = true) (hvk : cs[(Bx.mk mx my mw mh).ix (a, b)]? = some vk) {Y : Mem} (hX : HpSub m Y) (hwY : Y.Wf) => r_ref08_at hl hmx hmy lc (hbx hr) hvk hX hwY
  have sc := oc.isSl iF_even
  have hv00 := (hMn.1.nn hE.dir).1
  have hpi : ∀ c w, Pth (okR W cl sz ax ay aw ah) (t1, t2) c w → hasB mx my mw mh c.1 c.2 = true := fun c w hp => by
    simp only [Vd, Bool.and_eq_true] at hvd
    have := pth_in (inR := fun c => hasB ax ay aw ah c.1 c.2) ⟨hvd.1.1.2, hvd.2⟩ hp
    have h9 := (stands_in this.2).2.2.2.1
    unfold Wd.has at h9
    rw [hmh, h9, Bool.and_true]
    exact this.1
  refine KL_ind (R := fun z => ∃ H' u o v' l c, fin [.cell 8 (some 2), .t 9] X z = some (.tup [.agg [.int .i64 o, v'], .int .i64 c], (X.hp H').es (escMin X.esc u)) ∧ Keep [] H H' ∧ Own cellF H' v' l ∧ (∀ i ∈ slFp v', H.length ≤ i) ∧ WayRes W cl sz ax ay aw ah f1 f2 t1 t2 16384 o l c) (α := List Cl × Cl × Int × SV × Hp × List SBk × Option Cl) (fun q => q.2.2.1.toNat)
    (fun q => match q.2.2.2.2.2.2 with
      | none => [(4, .ptr (.st X.dep 0) 0), (6, .ptr (.st X.dep 2) 0), (8, .ptr (.st X.dep 4) 0), (11, .ptr (.st X.dep 6) 0), (13, cv), (14, .ptr (.st X.dep 7) 0), (15, .int .i64 v0), (16, .ptr (.st X.dep (8 + q.2.2.2.2.2.1.length)) 0)]
      | some p => [(16, .ptr (.st X.dep (8 + q.2.2.2.2.2.1.length)) 0), (126, .agg [.int .i64 p.1, .int .i64 p.2]), (4, .ptr (.st X.dep 0) 0), (6, .ptr (.st X.dep 2) 0), (8, .ptr (.st X.dep 4) 0), (11, .ptr (.st X.dep 6) 0), (13, cv), (14, .ptr (.st X.dep 7) 0), (15, .int .i64 v0), (16, .ptr (.st X.dep (8 + (q.2.2.2.2.2.1.length - 2))) 0)])
    (fun q => (X.hp q.2.2.2.2.1).fr (gfB W v f1 f2 t1 t2 ax ay aw ah mx my mw mh q.2.2.2.1 q.2.2.2.2.2.1 ++ [.cells true [.int .i64 q.2.1.1, .int .i64 q.2.1.2]]) none)
    (fun q => Own cellF q.2.2.2.2.1 q.2.2.2.1 q.1 ∧ (∀ i ∈ slFp q.2.2.2.1, HC.length ≤ i) ∧ Keep [] HC q.2.2.2.2.1 ∧ Mn (okR W cl sz ax ay aw ah) (t1, t2) q.2.1 q.2.2.1 ∧ wayC (okR W cl sz ax ay aw ah) (t1, t2) v0.toNat (f1, f2) = q.1 ++ wayC (okR W cl sz ax ay aw ah) (t1, t2) v0.toNat q.2.1 ∧ 10 * (q.1.length : Int) + q.2.2.1 ≤ v0) ?_ ([], (f1, f2), v0, .nils, HC, [], none) ⟨Own.nil _, by simp [slFp], Keep.refl _ _, hMn, rfl, by simp⟩
  rintro ⟨acc, ⟨c1, c2⟩, vc, hv', Hc, jl, pc⟩ ⟨ow, fp, kc, hm, hway, hlen⟩ ih
  dsimp only at ow fp kc hm hway hlen ⊢
  have hk2 := kc.1
  have hk1 := kC.1
  have hvc := (hm.1.nn hE.dir).1
  have s1 := ow.isSl cellF_even
  have kkh : Keep [] H Hc := kC.trans kc
  by_cases hct : ((c1, c2) : Cl) = (t1, t2)
  · simp only [Prod.mk.injEq] at hct
    obtain ⟨rfl, rfl⟩ := hct
    have kb := (show Keep [] X.heap Hc by rw [hH]; exact kkh).back (h := hv'.hx) (u := none)
    rw [hH] at kb
    rcases pc with _ | pc
    all_goals dsimp only
    all_goals simp (maxDischargeDepth := 8) only [go_sem, hw, s1.l, s1.c, s1.k, s1.o, gfB_0, gfB_2, gfB_4, gfB_6, gfB_7, gfB_i, gfB_s4, sc.l]
    all_goals
      refine ⟨(if hv'.hx ≤ X.hl then List.take X.hl Hc else Hc), none, 1, hv', acc, v0, ?_, ?_, ow.congr fun i hi => ?_, fun i hi => by have := fp i hi; omega, .inr ⟨rfl, hvd, hMn, by omega, ?_⟩⟩
      · cases X with | mk a b c d e => cases e <;> rfl
      · have := (show Keep [] X.heap Hc by rw [hH]; exact kkh).back1 (h := hv'.hx)
        rw [hH] at this
        exact this
      · have := fp i hi
        have h9 := hx_fp hi
        rw [if_neg (by omega)]
      · rw [hway, way_nil, List.append_nil]
  · have hne : (c1 == t1 && c2 == t2) = false := by
      rw [Bool.eq_false_iff]
      intro hc
      simp only [Bool.and_eq_true, beq_iff_eq] at hc
      exact hct (Prod.ext hc.1 hc.2)
    have hcm := hpi _ _ hm.1
    dsimp only at hcm
    obtain ⟨w', q1, q2, q3, q4⟩ := hat hcm
    obtain rfl : w' = vc := by
      rcases q4 with ⟨_, q4⟩ | ⟨_, q4⟩
      · exact q4.uniq hm
      · exact absurd hm.1 (q4 _)
    have hvH : LiesD boolF (Hm Hc) v (W.gr cl sz) := hv.sub kkh.sub
    have hst8 := fun {Y : Mem} (hX : HpSub (Hm Hc) Y) (hwY : Y.Wf) (x y d : Int) => r_ref08_Ground_Steps hvH w1 w2 (cl := cl) (sz := sz) hX hwY x y d
    have lC := (oc.keep kc (by simp)).lies iF_even
    have hgood : ∀ d, W.steps cl sz c1 c2 d = true → (Good (okR W cl sz ax ay aw ah) (t1, t2) (c1, c2) d ↔ hasB mx my mw mh (c1 + turnX d) (c2 + turnY d) = true ∧ ∃ w, cs[(Bx.mk mx my mw mh).ix (c1 + turnX d, c2 + turnY d)]? = some w ∧ 0 ≤ w ∧ w + costP d = w') := by
      intro d hs
      constructor
      · rintro ⟨hk, u, g1, g2⟩
        have hb := hpi _ _ g1.1
        obtain ⟨u', r1, r2, r3, r4⟩ := hat (a := c1 + turnX d) (b := c2 + turnY d) hb
        refine ⟨hb, u', r1, ?_⟩
        rcases r4 with ⟨r5, r4⟩ | ⟨_, r4⟩
        · obtain rfl := r4.uniq g1
          exact ⟨r5, hm.uniq g2 ▸ rfl⟩
        · exact absurd g1.1 (r4 _)
      · rintro ⟨hb, u, g1, g2, g3⟩
        obtain ⟨u', r1, r2, r3, r4⟩ := hat hb
        rw [g1] at r1; cases r1
        rcases r4 with ⟨r5, r4⟩ | ⟨r5, r4⟩
        · refine ⟨?_, u, r4, by rw [g3]; exact hm⟩
          rw [← okR_eq hmh]
          simp only [okR, okS, mvC, hcm, hs, hb, Bool.and_self]
        · omega
    obtain ⟨dg, hfd, hgg, hnx, hM2, hdg⟩ := nxt_good hE hm hct
    have hwc := way_cons hE (n := v0.toNat) hm (by omega) hct
    have hcd := cost_pos hdg
    have hvn := (hM2.1.nn hE.dir).1
    have inner : ∃ H' u o v' l c, fin [.cell 8 (some 2), .t 9] X (KL tb [KI.block 2, KI.kp [4, 6, 8, 11, 13, 14, 15, 16], KI.seq s_ref08_Ground_Find_p21, KI.block 1, KI.kp [4, 6, 8, 11, 13, 14, 15, 16], KI.seq s_ref08_Ground_Find_p22, KI.loop 9 none s_ref08_Ground_Find_p23, KI.block 0, KI.kp [8, 14, 15], KI.seq (s_ref08_Ground_Find_p24.seq SCode.ret)]
        (8 + jl.length + 1) (some [4, 6, 8, 11, 13, 14, 15, 16, 17]) s_ref08_Ground_Find_p19 [(4, .ptr (.st X.dep 0) 0), (6, .ptr (.st X.dep 2) 0), (8, .ptr (.st X.dep 4) 0), (11, .ptr (.st X.dep 6) 0), (13, cv), (14, .ptr (.st X.dep 7) 0), (15, .int .i64 v0), (16, .ptr (.st X.dep (8 + jl.length)) 0), (17, .int .i64 ((0 : Nat) : Int))]
        ((X.hp Hc).fr (gfB W v f1 f2 t1 t2 ax ay aw ah mx my mw mh hv' jl ++ [.cells true [.int .i64 c1, .int .i64 c2]]) none)) = some (.tup [.agg [.int .i64 o, v'], .int .i64 c], (X.hp H').es (escMin X.esc u)) ∧ Keep [] H H' ∧ Own cellF H' v' l ∧ (∀ i ∈ slFp v', H.length ≤ i) ∧ WayRes W cl sz ax ay aw ah f1 f2 t1 t2 16384 o l c := by
      refine KL_ind (R := fun z => ∃ H' u o v' l c, fin [.cell 8 (some 2), .t 9] X z = some (.tup [.agg [.int .i64 o, v'], .int .i64 c], (X.hp H').es (escMin X.esc u)) ∧ Keep [] H H' ∧ Own cellF H' v' l ∧ (∀ i ∈ slFp v', H.length ≤ i) ∧ WayRes W cl sz ax ay aw ah f1 f2 t1 t2 16384 o l c) (α := Nat) (fun d => 9 - d)
        (fun d => [(4, .ptr (.st X.dep 0) 0), (6, .ptr (.st X.dep 2) 0), (8, .ptr (.st X.dep 4) 0), (11, .ptr (.st X.dep 6) 0), (13, cv), (14, .ptr (.st X.dep 7) 0), (15, .int .i64 v0), (16, .ptr (.st X.dep (8 + jl.length)) 0), (17, .int .i64 (d : Int))])
        (fun _ => (X.hp Hc).fr (gfB W v f1 f2 t1 t2 ax ay aw ah mx my mw mh hv' jl ++ [.cells true [.int .i64 c1, .int .i64 c2]]) none)
        (fun d => d ≤ 8 ∧ ∀ d', isDir d' = true → d' < (d : Int) → ¬ Good (okR W cl sz ax ay aw ah) (t1, t2) (c1, c2) d') ?_ 0 ⟨Nat.zero_le _, fun d' h1 h2 => by simp [isDir] at h1; omega⟩
      rintro d ⟨hd8, hng⟩ ih2
      have lidx : (8 + jl.length < 8 + jl.length + 1) = True := by simp
      have l7 : ∀ k : Nat, k ≤ 8 → (k < 8 + jl.length + 1) = True := fun k hk => by simp; omega
      simp (maxDischargeDepth := 8) only [go_sem, hw, s1.l, sc.l, l7, lidx]
      by_cases hd : d < 8
      · have hdir : isDir (d : Int) = true := by simp [isDir]; omega
        have ngo : ¬ Good (okR W cl sz ax ay aw ah) (t1, t2) (c1, c2) d → ∀ d', isDir d' = true → d' < ((d + 1 : Nat) : Int) → ¬ Good (okR W cl sz ax ay aw ah) (t1, t2) (c1, c2) d' := fun h d' h1 h2 => by
          by_cases e : d' = (d : Int)
          · subst e; exact h
          · exact hng d' h1 (by omega)
        have hnext : ¬ Good (okR W cl sz ax ay aw ah) (t1, t2) (c1, c2) d → _ := fun h => ih2 (d + 1) ⟨by omega, ngo h⟩ (by omega)
        cases hs : W.steps cl sz c1 c2 d with
        | false =>
          simp (maxDischargeDepth := 8) only [go_sem, show decide ((d : Int) < 8) = true from decide_eq_true (by omega), hw, s1.l, sc.l, l7, lidx, gfB_t1, gfB_0, gfB_i, gfB_ap, gfB_n, gfB_sn, gfB_l1, hst8, hs, wrap_succ (show d ≤ 4611686018427387903 by omega)]
          rw [KL_keep _ _ _ (by simp (maxDischargeDepth := 8) only [go_sem, sc.l, l7, lidx])]
          simp (maxDischargeDepth := 8) only [go_sem, gfB_t1]
          refine hnext ?_
          rintro ⟨hk, _⟩
          simp only [okR, okS, hs, Bool.and_false, Bool.false_and] at hk
          cases hk
        | true =>
          cases hb : hasB mx my mw mh (c1 + turnX d) (c2 + turnY d) with
          | false =>
            simp (maxDischargeDepth := 8) only [go_sem, show decide ((d : Int) < 8) = true from decide_eq_true (by omega), hw, s1.l, sc.l, l7, lidx, gfB_t1, gfB_0, gfB_6, gfB_i, gfB_ap, gfB_n, gfB_sn, gfB_l1, hst8, hs, r_ref03_Has, hb, wrap_succ (show d ≤ 4611686018427387903 by omega)]
            rw [KL_keep _ _ _ (by simp (maxDischargeDepth := 8) only [go_sem, sc.l, l7, lidx])]
            simp (maxDischargeDepth := 8) only [go_sem, gfB_t1]
            refine hnext fun hG => ?_
            have := (hgood d hs).1 hG
            rw [hb] at this
            cases this.1
          | true =>
            obtain ⟨wn, r1, r2, r3, r4⟩ := hat hb
            have hcdd := cost_pos hdir
            have wwn : IntKind.wrap .i64 (wn + costP d) = wn + costP d := wrap_small (by omega) (by omega)
            by_cases hG : Good (okR W cl sz ax ay aw ah) (t1, t2) (c1, c2) d
            · obtain ⟨_, u, g1, g2, g3⟩ := (hgood d hs).1 hG
              rw [r1] at g1; cases g1
              have hdd : (d : Int) = dg := by
                have h9 := firstD_first hG hdir hng
                rw [hfd] at h9
                cases h9; rfl
              rw [← hdd] at hnx hM2 hcd
              change nxtC _ _ _ = (c1 + turnX d, c2 + turnY d) at hnx
              rw [hnx] at hM2 hwc
              obtain ⟨a, ha'⟩ : ∃ a, c1 + turnX d = a := ⟨_, rfl⟩
              obtain ⟨b, hb'⟩ : ∃ b, c2 + turnY d = b := ⟨_, rfl⟩
              obtain ⟨hv2, H2, ha, o1, o2, o3, o4⟩ := app1 ow fp kc (by omega) X (by omega) (c1 + turnX d) (c2 + turnY d)
              have fin2 := ih (acc ++ [(c1 + turnX d, c2 + turnY d)], (c1 + turnX d, c2 + turnY d), w' - costP d, hv2, H2, jl ++ [.cells true [.int .i64 (c1 + turnX d), .int .i64 (c2 + turnY d)], .cells true [.int .i64 (c1 + turnX d), .int .i64 (c2 + turnY d)]], some (c1 + turnX d, c2 + turnY d)) ⟨o1, o3, o2, hM2, by dsimp only; rw [hway, hwc, List.append_assoc]; rfl, by dsimp only; rw [List.length_append, List.length_singleton]; omega⟩ (by dsimp only; omega)
              dsimp only at fin2
              rw [show (jl ++ [SBk.cells true [.int .i64 (c1 + turnX d), .int .i64 (c2 + turnY d)], SBk.cells true [.int .i64 (c1 + turnX d), .int .i64 (c2 + turnY d)]]).length - 2 = jl.length by simp] at fin2
              simp (maxDischargeDepth := 8) only [go_sem, show decide ((d : Int) < 8) = true from decide_eq_true (by omega), hw, s1.l, sc.l, l7, lidx, gfB_t1, gfB_0, gfB_6, gfB_7, gfB_i, gfB_ap, gfB_n, gfB_sn, gfB_si, gfB_l1, hst8, hs, r_ref03_Has, hb, hrat lC hb r1, hrat lC hcm q1, show decide (wn ≥ 0) = true from decide_eq_true g2, r_ref03_Cost, wwn, g3, wrap_small (x := w') (by omega) (by omega), show ∀ n : Int, (n == n) = true from fun n => by simp, s1.c, s1.k, s1.o, ha, o4.l, o4.c, o4.k, o4.o, gfB_s7, gfB_new2, gfB_l2]
              exact fin2
            · by_cases hw0 : 0 ≤ wn
              · have hne2 : (wn + costP d == w') = false := by
                  rw [beq_eq_false_iff_ne]
                  exact fun hc => hG ((hgood d hs).2 ⟨hb, wn, r1, hw0, hc⟩)
                simp (maxDischargeDepth := 8) only [go_sem, show decide ((d : Int) < 8) = true from decide_eq_true (by omega), hw, s1.l, sc.l, l7, lidx, gfB_t1, gfB_0, gfB_6, gfB_i, gfB_ap, gfB_n, gfB_sn, gfB_l1, hst8, hs, r_ref03_Has, hb, hrat lC hb r1, hrat lC hcm q1, show decide (wn ≥ 0) = true from decide_eq_true hw0, r_ref03_Cost, wwn, hne2, wrap_succ (show d ≤ 4611686018427387903 by omega)]
                rw [KL_keep _ _ _ (by simp (maxDischargeDepth := 8) only [go_sem, sc.l, l7, lidx])]
                simp (maxDischargeDepth := 8) only [go_sem, gfB_t1]
                exact hnext hG
              · simp (maxDischargeDepth := 8) only [go_sem, show decide ((d : Int) < 8) = true from decide_eq_true (by omega), hw, s1.l, sc.l, l7, lidx, gfB_t1, gfB_0, gfB_6, gfB_i, gfB_ap, gfB_n, gfB_sn, gfB_l1, hst8, hs, r_ref03_Has, hb, hrat lC hb r1, show decide (wn ≥ 0) = false from decide_eq_false hw0, wrap_succ (show d ≤ 4611686018427387903 by omega)]
                rw [KL_keep _ _ _ (by simp (maxDischargeDepth := 8) only [go_sem, sc.l, l7, lidx])]
                simp (maxDischargeDepth := 8) only [go_sem, gfB_t1]
                exact hnext hG
      · exfalso
        have : isDir dg = true := hdg
        simp [isDir] at this
        exact hng dg hdg (by omega) hgg
    rcases pc with _ | pc
    all_goals dsimp only
    all_goals simp (maxDischargeDepth := 8) only [go_sem, hw, hne, s1.l, s1.c, s1.k, s1.o, gfB_0, gfB_2, gfB_4, gfB_6, gfB_7, gfB_i, gfB_s4, gfB_l1, sc.l]
    all_goals exact inner
theorem r_ref08_Ground_Find {X : Mem} {v : SV} {W : Wd} {cl sz : Int} (hv : LiesD boolF (Hm X.heap) v (W.gr cl sz)) (w1 : 1 ≤ W.w ∧ W.w ≤ 128) (w2 : 1 ≤ W.h ∧ W.h ≤ 128) (hw : X.Wf) (hhb : X.hb ≤ X.hl) (f1 f2 t1 t2 ax ay aw ah : Int) :
    ∃ H' u o v' l c, RF tb f_ref08_Ground_Find [grV W.w W.h v, cellV f1 f2, cellV t1 t2, rect ax ay aw ah] X = some (.tup [.agg [.int .i64 o, v'], .int .i64 c], (X.hp H').es (escMin X.esc u)) ∧ Keep [] X.heap H' ∧ Own cellF H' v' l ∧ (∀ i ∈ slFp v', X.heap.length ≤ i) ∧ WayRes W cl sz ax ay aw ah f1 f2 t1 t2 16384 o l c := by
  rw [RF_go t_ref08_Ground_Find _ _ rfl, push_hp]
  generalize hH : X.heap = H at *
  have hHl : X.hl = H.length := by rw [← hH]; rfl
  have sv := hv.isSl
  have htk : H.take X.hl = H := by rw [hHl, List.take_length]
  have nope : Vd W cl sz ax ay aw ah f1 f2 t1 t2 = false → ∃ H' u o v' l c, (some (.tup [.agg [.int .i64 2, .nils], .int .i64 0], X.hp (List.take X.hl H)) : Option (SV × Mem)) = some (.tup [.agg [.int .i64 o, v'], .int .i64 c], (X.hp H').es (escMin X.esc u)) ∧ Keep [] H H' ∧ Own cellF H' v' l ∧ (∀ i ∈ slFp v', H.length ≤ i) ∧ WayRes W cl sz ax ay aw ah f1 f2 t1 t2 16384 o l c := fun hv => by
    refine ⟨H, none, 2, .nils, [], 0, ?_, Keep.refl _ _, Own.nil _, by simp [slFp], .inl ⟨rfl, rfl, rfl, fun h => by rw [hv] at h; cases h⟩⟩
    rw [htk]
    cases X with | mk a b c d e => cases e <;> rfl
  have hst := fun {Y : Mem} (hX : HpSub (Hm H) Y) (hwY : Y.Wf) (x y : Int) => r_ref08_Ground_Stands hv w1 w2 (cl := cl) (sz := sz) hX hwY x y
  simp (maxDischargeDepth := 8) only [go_sem, s_ref08_Ground_Find, grV, cellV, rect, hw, hH, sv.l, sv.c, sv.k, sv.o, r_ref03_May]
  cases hmay : mayB ax ay aw ah with
  | false =>
    simp (maxDischargeDepth := 8) only [go_sem, hw, sv.l]
    exact nope (by simp [Vd, hasB, hmay])
  | true =>
    simp (maxDischargeDepth := 8) only [go_sem, hw, sv.l, r_ref03_Has]
    cases h1 : hasB ax ay aw ah f1 f2 with
    | false =>
      simp (maxDischargeDepth := 8) only [go_sem, hw, sv.l]
      exact nope (by simp [Vd, h1])
    | true =>
      simp (maxDischargeDepth := 8) only [go_sem, hw, sv.l, r_ref03_Has]
      cases h2 : hasB ax ay aw ah t1 t2 with
      | false =>
        simp (maxDischargeDepth := 8) only [go_sem, hw, sv.l]
        exact nope (by simp [Vd, h2])
      | true =>
        simp (maxDischargeDepth := 8) only [go_sem, hw, sv.l, r_ref03_Meet]
        cases hme : meetB ax ay aw ah 0 0 W.w W.h with
        | false =>
          simp (maxDischargeDepth := 8) only [go_sem, hw, sv.l]
          refine nope ?_
          cases h3 : W.stands cl sz f1 f2 with
          | false => simp [Vd, h3]
          | true =>
            have h9 := (stands_in h3).2.2.2.1
            unfold Wd.has at h9
            have := meet_of_has h1 h9
            rw [hme] at this; cases this
        | true =>
          obtain ⟨mx, my, mw, mh, hmv, hmm, hmx, hmy, hmh⟩ := meet_box w1 w2 hme
          simp only [meetV, rect, hme, SV.agg.injEq, List.cons.injEq, SV.int.injEq, and_true, true_and] at hmv
          obtain ⟨v1, v2, v3, v4⟩ := hmv
          simp (maxDischargeDepth := 8) only [go_sem, hw, sv.l, hst, v1, v2, v3, v4]
          cases h3 : W.stands cl sz f1 f2 with
          | false =>
            simp (maxDischargeDepth := 8) only [go_sem, hw, sv.l]
            exact nope (by simp [Vd, h3])
          | true =>
            simp (maxDischargeDepth := 8) only [go_sem, hw, sv.l, hst]
            cases h4 : W.stands cl sz t1 t2 with
            | false =>
              simp (maxDischargeDepth := 8) only [go_sem, hw, sv.l]
              exact nope (by simp [Vd, h4])
            | true =>
              have hvd : Vd W cl sz ax ay aw ah f1 f2 t1 t2 = true := by simp [Vd, h1, h2, h3, h4]
              have sb1 := (stands_in h3).2.2.2.1
              have sb2 := (stands_in h4).2.2.2.1
              unfold Wd.has at sb1 sb2
              have g1 : hasB mx my mw mh f1 f2 = true := by rw [hmh, h1, sb1]; rfl
              have g2 : hasB mx my mw mh t1 t2 = true := by rw [hmh, h2, sb2]; rfl
              clear nope
              simp (maxDischargeDepth := 8) only [go_sem, hw, sv.l]
              generalize hz : RF tb f_ref08_Ground_Costs _ _ = z
              obtain ⟨cv, HC, cs, hzc, oc, fc, kC, lc, bc, -, hco⟩ := r_ref08_Ground_Costs (X := (X.hp H).fr [.cells true [.int .i64 W.w, .int .i64 W.h, v], .cells true [.int .i64 f1, .int .i64 f2], .cells true [.int .i64 t1, .int .i64 t2], .cells true [.int .i64 ax, .int .i64 ay, .int .i64 aw, .int .i64 ah], .cells true [.int .i64 0, .nils], .cells true [.int .i64 2, .nils], .cells true [.int .i64 mx, .int .i64 my, .int .i64 mw, .int .i64 mh]] none) hv w1 w2 (fr_wf (hp_wf hw) _ _) (by show X.hb ≤ H.length; omega) hmm hmx hmy g2
              obtain rfl := hz.symm.trans hzc
              clear hz hzc
              have hco := hco h4
              rw [okR_eq hmh] at hco
              change ∀ i ∈ slFp cv, H.length ≤ i at fc
              change Keep [] H HC at kC
              have sc := oc.isSl iF_even
              have lC := oc.lies iF_even
              have hn16 : (Bx.mk mx my mw mh).n ≤ 16384 := by show mw.toNat * mh.toNat ≤ 16384; exact Nat.mul_le_mul (show mw.toNat ≤ 128 by omega) (show mh.toNat ≤ 128 by omega)
              have hbx : ∀ {a b : Int}, hasB mx my mw mh a b = true → (Bx.mk mx my mw mh).has (a, b) = true := fun h => by rw [← bx_has hmm]; exact h
              have hat : ∀ {a b : Int} (hh : hasB mx my mw mh a b = true), ∃ w, cs[(Bx.mk mx my mw mh).ix (a, b)]? = some w ∧ -1 ≤ w ∧ w ≤ 14 * 16384 ∧ ((0 ≤ w ∧ Mn (okR W cl sz ax ay aw ah) (t1, t2) (a, b) w) ∨ (w = -1 ∧ ∀ u, ¬ Pth (okR W cl sz ax ay aw ah) (t1, t2) (a, b) u)) := fun hh => by
                obtain ⟨w, q1, q2⟩ := hco.val _ (hbx hh)
                have := bc w (List.mem_of_getElem? q1)
                refine ⟨w, q1, ?_, by omega, q2⟩
                rcases q2 with ⟨q2, _⟩ | ⟨q2, _⟩ <;> omega
              obtain ⟨v0, e0, e1, e2, e3⟩ := hat g1
              have hrat := fun {m : Mem} (hl : LiesD iF m cv cs) {a b vk : Int} (hr : hasB mx my mw mh a b = true) (hvk : cs[(Bx.mk mx my mw mh).ix (a, b)]? = some vk) {Y : Mem} (hX : HpSub m Y) (hwY : Y.Wf) => r_ref08_at hl hmx hmy lc (hbx hr) hvk hX hwY
              simp (maxDischargeDepth := 8) only [go_sem, hw, sc.l, sc.c, sc.k, sc.o, hrat lC g1 e0]
              rcases e3 with ⟨e3, hMn⟩ | ⟨e3, hno⟩
              · simp (maxDischargeDepth := 8) only [go_sem, show decide (v0 < 0) = false from decide_eq_false (by omega), hw, sc.l, sc.c, sc.k, sc.o, hrat lC g1 e0]
                exact gfind_loop hH hv w1 w2 hw hhb hmm hmx hmy hmh oc kC lc (fun hh => hat hh) hvd e2 hMn
              · simp (maxDischargeDepth := 8) only [go_sem, show decide (v0 < 0) = true from decide_eq_true (by omega), hw, sc.l]
                have kb := (show Keep [] X.heap HC by rw [hH]; exact kC).back0 (u := none)
                rw [hH] at kb
                refine ⟨_, none, 2, .nils, [], 0, ?_, kb, Own.nil _, by simp [slFp], .inl ⟨rfl, rfl, rfl, fun _ w hp => hno w hp⟩⟩
                cases X with | mk a b c d e => cases e <;> rfl
/-- How many cells of a rectangle are the world's. -/
def cellsN (W : Wd) (ax ay aw ah : Int) : Nat := if meetB ax ay aw ah 0 0 W.w W.h then (Bx.mk (mxI ax 0) (mxI ay 0) (wl (mnI (lastX ax aw) (lastX 0 W.w)) (mxI ax 0)) (wl (mnI (lastX ay ah) (lastX 0 W.h)) (mxI ay 0))).n else 0
theorem cells_cnt {W : Wd} (w1 : 1 ≤ W.w ∧ W.w ≤ 128) (w2 : 1 ≤ W.h ∧ W.h ≤ 128) (cl sz ax ay aw ah : Int) : ∀ l : List Cl, l.Nodup → (∀ c ∈ l, hasB ax ay aw ah c.1 c.2 = true ∧ W.stands cl sz c.1 c.2 = true) → l.length ≤ cellsN W ax ay aw ah := by
  intro l hn h
  have hst : ∀ c ∈ l, hasB 0 0 W.w W.h c.1 c.2 = true := fun c hc => by
    have := (stands_in (h c hc).2).2.2.2.1
    unfold Wd.has at this
    exact this
  cases hme : meetB ax ay aw ah 0 0 W.w W.h with
  | false =>
    cases l with
    | nil => exact Nat.zero_le _
    | cons c l =>
      have := meet_of_has (h c List.mem_cons_self).1 (hst c List.mem_cons_self)
      rw [hme] at this; cases this
  | true =>
    obtain ⟨mx, my, mw, mh, hmv, hmm, hmx, hmy, hmh⟩ := meet_box w1 w2 hme
    simp only [meetV, rect, hme, iB_t, SV.agg.injEq, List.cons.injEq, SV.int.injEq, and_true, true_and] at hmv
    obtain ⟨v1, v2, v3, v4⟩ := hmv
    unfold cellsN
    rw [hme, if_pos rfl, v3, v4, v1, v2]
    exact bx_count _ l hn fun c hc => by rw [← bx_has hmm, hmh, (h c hc).1, hst c hc]; rfl
theorem cells_le {W : Wd} (w1 : 1 ≤ W.w ∧ W.w ≤ 128) (w2 : 1 ≤ W.h ∧ W.h ≤ 128) (ax ay aw ah : Int) : cellsN W ax ay aw ah ≤ 16384 := by
  unfold cellsN
  cases hme : meetB ax ay aw ah 0 0 W.w W.h with
  | false => rw [if_neg (by simp)]; decide
  | true =>
    obtain ⟨mx, my, mw, mh, hmv, hmm, hmx, hmy, hmh⟩ := meet_box w1 w2 hme
    simp only [meetV, rect, hme, iB_t, SV.agg.injEq, List.cons.injEq, SV.int.injEq, and_true, true_and] at hmv
    obtain ⟨v1, v2, v3, v4⟩ := hmv
    rw [if_pos rfl, v3, v4, v1, v2]
    show mw.toNat * mh.toNat ≤ 16384
    exact Nat.mul_le_mul (show mw.toNat ≤ 128 by omega) (show mh.toNat ≤ 128 by omega)
theorem r_law10_cells {m : Mem} {p : QP} {W : Wd} {bl : List Bld} (hV : RefAt m p W bl) {X : Mem} (hX : HpSub m X) (hw : X.Wf) (ax ay aw ah : Int) : RF tb f_law10_cells [.ptr (.hp p.k 0) 0, rect ax ay aw ah] X = some (.int .i64 (cellsN W ax ay aw ah : Nat), X) := by
  have w1 := hV.w1
  have w2 := hV.h1
  have hle := cells_le w1 w2 ax ay aw ah
  rw [RF_go t_law10_cells _ _ rfl]
  simp (maxDischargeDepth := 8) only [go_sem, s_law10_cells, rect, hw, r_ref04_All hV, hX, r_ref03_Meet]
  cases hme : meetB ax ay aw ah 0 0 W.w W.h with
  | false =>
    have e : cellsN W ax ay aw ah = 0 := by unfold cellsN; rw [hme]; rfl
    simp (maxDischargeDepth := 8) only [go_sem, hw, e]
    try rfl
  | true =>
    obtain ⟨mx, my, mw, mh, hmv, hmm, hmx, hmy, hmh⟩ := meet_box w1 w2 hme
    simp only [meetV, rect, hme, iB_t, SV.agg.injEq, List.cons.injEq, SV.int.injEq, and_true, true_and] at hmv
    obtain ⟨v1, v2, v3, v4⟩ := hmv
    have e : ((cellsN W ax ay aw ah : Nat) : Int) = mw * mh := by
      unfold cellsN
      rw [hme, if_pos rfl, v3, v4, v1, v2]
      show ((mw.toNat * mh.toNat : Nat) : Int) = _
      rw [Int.natCast_mul, Int.toNat_of_nonneg (by omega), Int.toNat_of_nonneg (by omega)]
    rw [v1] at v3
    rw [v2] at v4
    simp (maxDischargeDepth := 8) only [go_sem, hw, iB_t, v1, v2, v3, v4, wrap_small (x := mw * mh) (by omega) (by omega), e]
theorem WayRes.same {W : Wd} {cl sz ax ay aw ah f1 f2 t1 t2 : Int} {N N' : Nat} {o o' c c' : Int} {l l' : List Cl} (h : WayRes W cl sz ax ay aw ah f1 f2 t1 t2 N o l c) (g : WayRes W cl sz ax ay aw ah f1 f2 t1 t2 N' o' l' c') : o = o' ∧ l = l' ∧ c = c' := by
  rcases h with ⟨rfl, rfl, rfl, h1⟩ | ⟨rfl, h1, h2, _, rfl⟩
  · rcases g with ⟨rfl, rfl, rfl, _⟩ | ⟨rfl, g1, g2, _, rfl⟩
    · exact ⟨rfl, rfl, rfl⟩
    · exact absurd g2.1 (h1 g1 _)
  · rcases g with ⟨rfl, rfl, rfl, g1⟩ | ⟨rfl, g1, g2, _, rfl⟩
    · exact absurd h2.1 (g1 h1 _)
    · obtain rfl := h2.uniq g2
      exact ⟨rfl, rfl, rfl⟩
theorem r_ref10_Same {m : Mem} {p q : SV} {l : List (Int × Int)} (hp : LiesD cellF m p l) (hq : LiesD cellF m q l) (hb : 2 * l.length * 16 ≤ two48) {X : Mem} (hX : HpSub m X) (hw : X.Wf) (o : Int) : RF tb f_ref10_Same [.agg [.int .i64 o, p], .agg [.int .i64 o, q]] X = some (.bool true, X) := by
  have sp := hp.isSl
  have sq := hq.isSl
  rw [RF_go t_ref10_Same _ _ rfl]
  simp (maxDischargeDepth := 8) only [go_sem, s_ref10_Same, hw, hX, sp.l, sp.c, sp.k, sp.o, sq.l, sq.c, sq.k, sq.o, show ∀ n : Int, (n == n) = true from fun n => by simp, r_ref10_Cells hp hq hb]
theorem shut_hp (m : Mem) (H : Hp) : (m.shut.hp H).reopen m = m.hp H := rfl
theorem gfind_of {X : Mem} {v : SV} {W : Wd} {cl sz f1 f2 t1 t2 ax ay aw ah : Int} {z : Option (SV × Mem)} (hz : RF tb f_ref08_Ground_Find [grV W.w W.h v, cellV f1 f2, cellV t1 t2, rect ax ay aw ah] X = z) (hv : LiesD boolF (Hm X.heap) v (W.gr cl sz)) (w1 : 1 ≤ W.w ∧ W.w ≤ 128) (w2 : 1 ≤ W.h ∧ W.h ≤ 128) (hw : X.Wf) (hhb : X.hb ≤ X.hl) :
    ∃ H' u o v' l c, z = some (.tup [.agg [.int .i64 o, v'], .int .i64 c], (X.hp H').es (escMin X.esc u)) ∧ Keep [] X.heap H' ∧ Own cellF H' v' l ∧ (∀ i ∈ slFp v', X.heap.length ≤ i) ∧ WayRes W cl sz ax ay aw ah f1 f2 t1 t2 16384 o l c := by
  rw [← hz]
  exact r_ref08_Ground_Find hv w1 w2 hw hhb f1 f2 t1 t2 ax ay aw ah
theorem r_law10_RouteFinds {X : Mem} {tv bv : SV} {tiles : List Int} {bl : List Bld} (hm : MapIn X tv bv tiles bl) (hw : X.Wf) (hhb : X.hb ≤ X.hl) (w hh cl sz f1 f2 t1 t2 ax ay aw ah B : Int) (hBr : -9223372036854775808 ≤ B ∧ B ≤ 9223372036854775807) : ∃ m', RF tb f_law10_RouteFinds [.agg [.int .i64 w, .int .i64 hh, tv, bv], askV cl sz f1 f2 t1 t2 ax ay aw ah B] X = some (.bool true, m') := by
  rw [RF_go t_law10_RouteFinds _ _ rfl, push_hp]
  simp (maxDischargeDepth := 8) only [go_sem, s_law10_RouteFinds, askV, hw, hm.t.cell, hm.b.cell]
  generalize hz : RF tb f_law06_Both _ _ = z
  rcases both_of hz ⟨hm.t, hm.g, hm.b, hm.n⟩ (by simp (maxDischargeDepth := 8) only [go_sem, hw]) hhb with ⟨H', u, rfl, k⟩ | ⟨H', u, p, q, rfl, hO, hR, hg, k, -, -⟩
  · have hl : X.hb ≤ H'.length := by have := k.1; exact Nat.le_trans hhb this
    simp (maxDischargeDepth := 8) only [go_sem, hw]
    generalize hz : RF tb f_law10_awake _ _ = z
    obtain ⟨H', u, rfl, -⟩ := aw10 hz (by simp (maxDischargeDepth := 8) only [go_sem, hw]) hl
    simp (maxDischargeDepth := 8) only [go_sem, hw]
    exact ⟨_, rfl⟩
  · have hl : X.hb ≤ H'.length := by have := k.1; exact Nat.le_trans hhb this
    obtain ⟨hwm, hw1, hw2⟩ := wrap_mul hO.at_.w1 hO.at_.h1
    dsimp only at hwm
    simp (maxDischargeDepth := 8) only [go_sem, hw, hwm]
    cases hgt : decide (w * hh > 700) with
    | true =>
      simp (maxDischargeDepth := 8) only [go_sem, hw]
      generalize hz : RF tb f_law10_awake _ _ = z
      obtain ⟨H', u, rfl, -⟩ := aw10 hz (by simp (maxDischargeDepth := 8) only [go_sem, hw]) hl
      simp (maxDischargeDepth := 8) only [go_sem, hw]
      exact ⟨_, rfl⟩
    | false =>
      simp (maxDischargeDepth := 8) only [go_sem, hw]
      generalize hz : RF tb f_route_Find _ _ = z
      have hN := cells_le hO.at_.w1 hO.at_.h1 ax ay aw ah
      have hcn := cells_cnt hO.at_.w1 hO.at_.h1 cl sz ax ay aw ah
      generalize hy : (((X.hp H').fr [SBk.cells true [SV.int .i64 w, SV.int .i64 hh, tv, bv], SBk.cells true [SV.int .i64 cl, SV.int .i64 sz, SV.int .i64 f1, SV.int .i64 f2, SV.int .i64 t1, SV.int .i64 t2, SV.int .i64 ax, SV.int .i64 ay, SV.int .i64 aw, SV.int .i64 ah, SV.int .i64 B]] u)) = Y at hz
      have hYw : Y.Wf := by rw [← hy]; exact fr_wf (hp_wf hw) _ _
      have hYH : Y.heap = H' := by rw [← hy]; rfl
      have hYb : Y.hb ≤ Y.hl := by rw [← hy]; exact hl
      obtain ⟨H1, u1, o1, v1, l1, c1, hf, k1, ow1, fp1, r1⟩ := r_route_Find (X := Y) (by rw [hYH]; exact hO) hg hYw hYb cl sz f1 f2 t1 t2 ax ay aw ah B (Nat.le_trans hN (by decide)) hBr hcn
      obtain rfl := hz.symm.trans hf
      clear hz hf
      rw [hYH] at k1 fp1
      subst hy
      have s1 := ow1.isSl cellF_even
      have hl1 : X.hb ≤ H1.length := Nat.le_trans hl k1.1
      have hR1 := hR.keep k1 (by simp)
      simp (maxDischargeDepth := 8) only [go_sem, hw, s1.l, s1.c, s1.k, s1.o]
      generalize hz : RF tb f_ref08_Of _ _ = z
      obtain ⟨gv, H2, rfl, og, fg, k2⟩ := gr_of (cl := cl) (sz := sz) hz hR1 (fun _ _ => rfl) hg (shut_wf _) (Nat.le_refl _)
      change Keep [] H1 H2 at k2
      have sg := og.isSl boolF_even
      have hl2 : X.hb ≤ H2.length := Nat.le_trans hl1 k2.1
      simp (maxDischargeDepth := 8) only [go_sem, hw, shut_hp, grV, s1.l, s1.c, s1.k, s1.o, sg.l, sg.c, sg.k, sg.o]
      generalize hz : RF tb f_ref08_Ground_Find _ _ = z
      obtain ⟨H3, u3, o2, v2, l2, c2, rfl, k3, ow2, fp2, r2⟩ := gfind_of hz (og.lies boolF_even) hO.at_.w1 hO.at_.h1 (by simp (maxDischargeDepth := 8) only [go_sem, hw]) hl2
      change Keep [] H2 H3 at k3
      have s2 := ow2.isSl cellF_even
      have hl3 : X.hb ≤ H3.length := Nat.le_trans hl2 k3.1
      have hR3 := ((hR1.keep k2 (by simp)).keep k3 (by simp)).at_
      have la := (((ow1.keep k2 (by simp)).keep k3 (by simp))).lies cellF_even
      simp (maxDischargeDepth := 8) only [go_sem, hw, s1.l, s1.c, s1.k, s1.o, s2.l, s2.c, s2.k, s2.o, r_ref06_May]
      have hmay : mayS cl sz = false → o2 = 2 ∧ l2 = [] ∧ c2 = 0 := fun hs => by
        rcases r2 with ⟨q1, q2, q3, _⟩ | ⟨_, q1, _⟩
        · exact ⟨q1, q2, q3⟩
        · simp only [Vd, Bool.and_eq_true] at q1
          have := (stands_in q1.2).2.1
          rw [hs] at this; cases this
      cases hms : mayS cl sz with
      | false =>
        simp (maxDischargeDepth := 8) only [go_sem, hw, s1.l, s1.c, s1.k, s1.o, s2.l, s2.c, s2.k, s2.o]
        obtain ⟨rfl, rfl, rfl⟩ := hmay hms
        have F1 : LiesD cellF (Hm H3) .nils [] := LiesD.nil cellF _
        have F2 := r2
        rcases r1 with ⟨rfl, rfl, rfl, hB⟩ | r1
        · simp (maxDischargeDepth := 8) only [go_sem, hw, s1.l, show ((3 : Int) == 3) = true from rfl]
          simp (maxDischargeDepth := 8) only [go_sem, hw, s1.l, s1.c, s1.k, s1.o, r_law10_cells hR3, la.len, show ((0 : Int) == 0) = true from rfl]
          simp (maxDischargeDepth := 8) only [go_sem, hw, show decide (B < ((cellsN ⟨w, hh, tiles, bl, []⟩ ax ay aw ah : Nat) : Int)) = true from decide_eq_true hB, s1.l, la.len, show ((0 : Int) == 0) = true from rfl]
          generalize hz : RF tb f_law10_awake _ _ = z
          obtain ⟨H', u, rfl, -⟩ := aw10 hz (by simp (maxDischargeDepth := 8) only [go_sem, hw]) hl3
          simp (maxDischargeDepth := 8) only [go_sem, hw]
          exact ⟨_, rfl⟩
        · obtain ⟨e1, e2, e3⟩ := r1.same F2
          have hl9 := r1.l_in
          have hn3 : (o1 == 3) = false := by rw [beq_eq_false_iff_ne]; rcases r1.o12 with h | h <;> omega
          rw [← e2] at F1
          have hsame := fun {Y : Mem} (hX : HpSub (Hm H3) Y) (hwY : Y.Wf) => r_ref10_Same la F1 (by simp only [two48]; omega) hX hwY o1
          simp (maxDischargeDepth := 8) only [go_sem, hw, s1.l, s1.c, s1.k, s1.o, s2.l, s2.c, s2.k, s2.o, hn3]
          try rw [← e1]
          try rw [← e3]
          simp (maxDischargeDepth := 8) only [go_sem, hw, s1.l, s1.c, s1.k, s1.o, s2.l, s2.c, s2.k, s2.o, hsame, show ∀ n : Int, (n == n) = true from fun n => by simp]
          generalize hz : RF tb f_law10_awake _ _ = z
          obtain ⟨H', u, rfl, -⟩ := aw10 hz (by simp (maxDischargeDepth := 8) only [go_sem, hw]) hl3
          simp (maxDischargeDepth := 8) only [go_sem, hw]
          exact ⟨_, rfl⟩
      | true =>
        simp (maxDischargeDepth := 8) only [go_sem, hw, s1.l, s1.c, s1.k, s1.o, s2.l, s2.c, s2.k, s2.o]
        have F1 := ow2.lies cellF_even
        have F2 := r2
        rcases r1 with ⟨rfl, rfl, rfl, hB⟩ | r1
        · simp (maxDischargeDepth := 8) only [go_sem, hw, s1.l, show ((3 : Int) == 3) = true from rfl]
          simp (maxDischargeDepth := 8) only [go_sem, hw, s1.l, s1.c, s1.k, s1.o, r_law10_cells hR3, la.len, show ((0 : Int) == 0) = true from rfl]
          simp (maxDischargeDepth := 8) only [go_sem, hw, show decide (B < ((cellsN ⟨w, hh, tiles, bl, []⟩ ax ay aw ah : Nat) : Int)) = true from decide_eq_true hB, s1.l, la.len, show ((0 : Int) == 0) = true from rfl]
          generalize hz : RF tb f_law10_awake _ _ = z
          obtain ⟨H', u, rfl, -⟩ := aw10 hz (by simp (maxDischargeDepth := 8) only [go_sem, hw]) hl3
          simp (maxDischargeDepth := 8) only [go_sem, hw]
          exact ⟨_, rfl⟩
        · obtain ⟨e1, e2, e3⟩ := r1.same F2
          have hl9 := r1.l_in
          have hn3 : (o1 == 3) = false := by rw [beq_eq_false_iff_ne]; rcases r1.o12 with h | h <;> omega
          rw [← e2] at F1
          have hsame := fun {Y : Mem} (hX : HpSub (Hm H3) Y) (hwY : Y.Wf) => r_ref10_Same la F1 (by simp only [two48]; omega) hX hwY o1
          simp (maxDischargeDepth := 8) only [go_sem, hw, s1.l, s1.c, s1.k, s1.o, s2.l, s2.c, s2.k, s2.o, hn3]
          try rw [← e1]
          try rw [← e3]
          simp (maxDischargeDepth := 8) only [go_sem, hw, s1.l, s1.c, s1.k, s1.o, s2.l, s2.c, s2.k, s2.o, hsame, show ∀ n : Int, (n == n) = true from fun n => by simp]
          generalize hz : RF tb f_law10_awake _ _ = z
          obtain ⟨H', u, rfl, -⟩ := aw10 hz (by simp (maxDischargeDepth := 8) only [go_sem, hw]) hl3
          simp (maxDischargeDepth := 8) only [go_sem, hw]
          exact ⟨_, rfl⟩
section
open Go.RowKit Go.WideShapes
abbrev AskT := (Int × Int) × (Int × Int) × (Int × Int) × ((Int × Int) × Int × Int) × Int
abbrev askA (b : AskT) : SV := askV b.1.1 b.1.2 b.2.1.1 b.2.1.2 b.2.2.1.1 b.2.2.1.2 b.2.2.2.1.1.1 b.2.2.2.1.1.2 b.2.2.2.1.2.1 b.2.2.2.1.2.2 b.2.2.2.2
end
section
open Go.RowKit Go.WideShapes
theorem law10_RouteFinds {P : Program} {e e' : TypeId} {okB : Bl' → Prop} (a : MT) (b : AskT) (h1 : slOk P e (inR .u8) a.2.2.1) (h2 : slOk P e' okB a.2.2.2) (hB : P.bytesOf e' = 40) (hb : inR .i64 b.2.2.2.2) {n0 n1 : In} (e0 : n0.map (·.2) = rdM.blks a 0) : ∃ m', RF tb f_law10_RouteFinds [.agg (rdM.cells a 0), askA b] (In.mem ([] ++ n0 ++ n1)) = some (.bool true, m') := by
  rw [rdM_blks] at e0
  rw [rdM_cells]
  exact r_law10_RouteFinds (mapIn_of (pre := []) h1 h2 hB e0) (In.wf _) (Nat.zero_le _) _ _ _ _ _ _ _ _ _ _ _ _ _ (inR_i64 hb)
end
end Go.Sh.T
