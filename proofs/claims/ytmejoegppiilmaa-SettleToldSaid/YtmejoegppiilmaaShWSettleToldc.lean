import Derived.Test.YtmejoegppiilmaaShWSettleToldb
import Derived.Test.YtmejoegppiilmaaShArg
set_option linter.all false
set_option linter.unusedVariables false
set_option linter.unusedSimpArgs false
set_option autoImplicit false
namespace Go.Sh.T
open Go.Sh
set_option maxHeartbeats 8000000
set_option maxRecDepth 20000
theorem near_has {W : Wd} (w1 : 1 ≤ W.w ∧ W.w ≤ 128) (w2 : 1 ≤ W.h ∧ W.h ≤ 128) {a b : Int} (h : hasB 0 0 W.w W.h a b = true) : nearC a b = true := by
  have := (has_w w1 w2 (W := W)).1 h
  simp [nearC, nearP]; omega
theorem will_has {W : Wd} {L : List Nat} {T : List Rc} {cl sz f1 f2 c1 c2 : Int} (h : willP W L T cl sz f1 f2 c1 c2 = true) : hasB 0 0 W.w W.h c1 c2 = true := by
  unfold willP at h
  simp only [Bool.and_eq_true, decide_eq_true_eq] at h
  cases hh : hasB 0 0 W.w W.h c1 c2 with
  | true => rfl
  | false =>
    have : atP W L c1 c2 = 0 := if_neg (by rw [hh]; decide)
    omega
theorem r_law19_SettleTold {X : Mem} {tv bv : SV} {tiles : List Int} {bl : List Bld} (hm : MapIn X tv bv tiles bl) (hw : X.Wf) (hhb : X.hb ≤ X.hl) (w hh cl sz f1 f2 t1 t2 : Int) {v : SV} {T : List Rc} (hT : LiesD rectF X v T) (hT2 : T.length ≤ 4611686018427387903) : ∃ m', RF tb f_law19_SettleTold [.agg [.int .i64 w, .int .i64 hh, tv, bv], .agg [.int .i64 cl, .int .i64 sz, .int .i64 f1, .int .i64 f2, .int .i64 t1, .int .i64 t2, v]] X = some (.bool true, m') := by
  have sv := hT.isSl
  rw [RF_go t_law19_SettleTold _ _ rfl, push_hp]
  simp (maxDischargeDepth := 8) only [go_sem, s_law19_SettleTold, hw, hm.t.cell, hm.b.cell, sv.l, sv.c, sv.k, sv.o]
  generalize hz : RF tb f_law06_Both _ _ = z
  rcases both_of hz ⟨hm.t, hm.g, hm.b, hm.n⟩ (by simp (maxDischargeDepth := 8) only [go_sem, hw]) hhb with ⟨H', u, rfl, k⟩ | ⟨H', u, p, q, rfl, hO, hR, hg, k, -, -⟩
  · have hl : X.hb ≤ H'.length := by have := k.1; exact Nat.le_trans hhb this
    simp (maxDischargeDepth := 8) only [go_sem, hw, parts_new0, sv.l, sv.c, sv.k, sv.o]
    generalize hz : RF tb f_law19_awake _ _ = z
    obtain ⟨H', u, rfl, -⟩ := aw19 hz (by simp (maxDischargeDepth := 8) only [go_sem, hw]) hl
    simp (maxDischargeDepth := 8) only [go_sem, hw]
    exact ⟨_, rfl⟩
  · have hl : X.hb ≤ H'.length := by have := k.1; exact Nat.le_trans hhb this
    have k' : Keep [] X.heap H' := k
    have hT' : LiesD rectF (Hm H') v T := LiesD.keep (show LiesD rectF (Hm X.heap) v T from hT) k' (by simp)
    have w1 := hO.at_.w1
    have w2 := hO.at_.h1
    dsimp only at w1 w2
    simp (maxDischargeDepth := 8) only [go_sem, hw, sv.l, sv.c, sv.k, sv.o]
    generalize hz : RF tb f_parts_New _ _ = z
    rcases parts_new_of hz (show WorldOwn H' p _ from hO) hg (fr_wf (hp_wf hw) _ _) hl with ⟨hms, H1, u1, rfl, k1⟩ | ⟨hms, H1, kp, L, F, Z, num, rt, u1, rfl, hP, hB, hr, k1, -⟩
    · have k1' : Keep [] H' H1 := k1
      have hl1 : X.hb ≤ H1.length := Nat.le_trans hl k1'.1
      simp (maxDischargeDepth := 8) only [go_sem, hw, show ((1 : Int) != 0) = true from by decide]
      generalize hz : RF tb f_law19_awake _ _ = z
      obtain ⟨H', u, rfl, -⟩ := aw19 hz (by simp (maxDischargeDepth := 8) only [go_sem, hw]) hl1
      simp (maxDischargeDepth := 8) only [go_sem, hw]
      exact ⟨_, rfl⟩
    · have k1' : Keep [] H' H1 := k1
      have hl1 : X.hb ≤ H1.length := Nat.le_trans hl k1'.1
      have hT1 := hT'.keep k1' (by simp)
      have hWl := fun {Y : Mem} (hY : HpSub (Hm H1) Y) (hwY : Y.Wf) (a b : Int) => r_settle_Will hP hT1 hT2 hY hwY (.ptr (.hp p.k 0) 0) cl sz f1 f2 a b
      have hN := fun {Y : Mem} (h1 : Y.heap = H1) (hwY : Y.Wf) (h2 : Y.hb ≤ Y.hl) => r_settle_Nearest (X := Y) (p := p) (k := kp) (W := ⟨w, hh, tiles, bl, []⟩) (L := L) (F := F) (Z := Z) (by rw [h1]; exact (hO.keep k1' (by simp)).at_) (by rw [h1]; exact hP) (v := v) (T := T) (by rw [h1]; exact hT1) hT2 hwY h2 cl sz f1 f2 t1 t2
      simp (maxDischargeDepth := 8) only [go_sem, hw, show ((0 : Int) != 0) = false from by decide, sv.l, sv.c, sv.k, sv.o]
      generalize hz : RF tb f_settle_Nearest _ _ = z
      obtain rfl := hz.symm.trans (hN (by rfl) (by simp (maxDischargeDepth := 8) only [go_sem, hw]) (by simp (maxDischargeDepth := 8) only [go_sem]; exact hl1))
      obtain ⟨N, hNn⟩ : ∃ N, w.toNat * hh.toNat = N := ⟨_, rfl⟩
      obtain ⟨hwm, hw1, hw2⟩ := wrap_mul (show 1 ≤ w ∧ w ≤ 128 from w1) (show 1 ≤ hh ∧ hh ≤ 128 from w2)
      have hwh : w * hh = (N : Int) := by rw [← hNn, Int.natCast_mul, Int.toNat_of_nonneg (by omega), Int.toNat_of_nonneg (by omega)]
      have hnf := nearF_ok (fun c => octC t1 t2 c.1 c.2) (fun c => willP ⟨w, hh, tiles, bl, []⟩ L T cl sz f1 f2 c.1 c.2) (cellsP 0 0 w hh)
      have hmem : ∀ a b, willP ⟨w, hh, tiles, bl, []⟩ L T cl sz f1 f2 a b = true → (a, b) ∈ cellsP 0 0 w hh := fun a b h => cellsP_mem.2 (will_has h)
      generalize ho : nearO ⟨w, hh, tiles, bl, []⟩ L T cl sz f1 f2 t1 t2 = o
      have ho' : nearF (fun c => octC t1 t2 c.1 c.2) (fun c => willP ⟨w, hh, tiles, bl, []⟩ L T cl sz f1 f2 c.1 c.2) (cellsP 0 0 w hh) = o := ho
      rw [ho'] at hnf
      have hno : ∀ (n : Int), (n ≠ 0) → willP ⟨w, hh, tiles, bl, []⟩ L T cl sz f1 f2 t1 t2 = false → ∃ m', fin [.t 4] X (KV tb [.kp [2, 3, 5, 8, 9, 10], .seq s_law19_SettleTold_p15] false
          (some (.tup [.agg [.int .i64 0, .int .i64 0], .int .i64 n], (X.hp H1).fr [.cells true [.int .i64 w, .int .i64 hh, tv, bv], .cells true [.int .i64 cl, .int .i64 sz, .int .i64 f1, .int .i64 f2, .int .i64 t1, .int .i64 t2, v]] (escMin u u1))) (some 44)
          [⟨some 33, .mv (.t 44), none, false⟩, ⟨some 45, .ext (.t 33) 0, none, false⟩, ⟨some 46, .ext (.t 33) 1, none, false⟩, ⟨some 10, .alloc true [.int .i64 0, .int .i64 0], none, false⟩, ⟨none, .store 2 [] (.t 10) (.t 45), none, false⟩, ⟨some 9, .mv (.t 46), none, false⟩]
          [(43, v), (42, .ptr (.st X.dep 1) 6), (41, .agg [.int .i64 t1, .int .i64 t2]), (40, .ptr (.st X.dep 1) 4), (39, .agg [.int .i64 f1, .int .i64 f2]), (38, .ptr (.st X.dep 1) 2), (37, .agg [.int .i64 cl, .int .i64 sz]), (36, .ptr (.st X.dep 1) 0), (35, .ptr (.hp kp 0) 0), (34, .ptr (.hp p.k 0) 0), (2, .ptr (.st X.dep 0) 0), (3, .ptr (.st X.dep 1) 0), (5, .ptr (.hp p.k 0) 0), (8, .ptr (.hp kp 0) 0)]) = some (.bool true, m') := by
        intro n hn hwf
        simp (maxDischargeDepth := 8) only [go_sem, hw, show (n != 0) = true from bne_iff_ne.2 hn, hWl, hwf, sv.l, sv.c, sv.k, sv.o]
        generalize hz : RF tb f_law19_awake _ _ = z
        obtain ⟨H', u, rfl, -⟩ := aw19 hz (by simp (maxDischargeDepth := 8) only [go_sem, hw]) hl1
        simp (maxDischargeDepth := 8) only [go_sem, hw]
        exact ⟨_, rfl⟩
      cases hnr : nearC t1 t2 with
      | false =>
        rw [if_neg (by simp)]
        refine hno 1 (by decide) ?_
        cases hwf : willP ⟨w, hh, tiles, bl, []⟩ L T cl sz f1 f2 t1 t2 with
        | false => rfl
        | true => have := near_has (W := ⟨w, hh, tiles, bl, []⟩) w1 w2 (will_has hwf); rw [hnr] at this; cases this
      | true =>
        rw [if_pos ⟨hms, rfl⟩]
        cases o with
        | none =>
          refine hno 4 (by decide) ?_
          cases hwf : willP ⟨w, hh, tiles, bl, []⟩ L T cl sz f1 f2 t1 t2 with
          | false => rfl
          | true => have := hnf.1 rfl _ (hmem _ _ hwf); rw [← hwf]; exact this
        | some b =>
          obtain ⟨p1, p2, p3⟩ := hnf.2 b rfl
          change willP ⟨w, hh, tiles, bl, []⟩ L T cl sz f1 f2 b.1 b.2 = true at p1
          simp (maxDischargeDepth := 8) only [go_sem, hw, nearV, show ((0 : Int) != 0) = false from by decide, hWl, p1, sv.l, sv.c, sv.k, sv.o]
          rw [KL_keep _ _ _ (by simp (maxDischargeDepth := 8) only [go_sem, sv.l])]
          simp (maxDischargeDepth := 8) only [go_sem]
          refine KL_ind (R := fun z => ∃ m', fin [.t 4] X z = some (.bool true, m'))
            (α := Nat) (fun q => N - q) (fun q => [(2, .ptr (.st X.dep 0) 0), (3, .ptr (.st X.dep 1) 0), (5, .ptr (.hp p.k 0) 0), (8, .ptr (.hp kp 0) 0), (10, .ptr (.st X.dep 2) 0), (11, .int .i64 (q : Int))]) (fun q => (X.hp H1).fr [.cells true [.int .i64 w, .int .i64 hh, tv, bv], .cells true [.int .i64 cl, .int .i64 sz, .int .i64 f1, .int .i64 f2, .int .i64 t1, .int .i64 t2, v], .cells true [.int .i64 b.1, .int .i64 b.2]] (escMin u u1))
            (fun q => q ≤ N) ?_ 0 (Nat.zero_le _)
          rintro i hi ih
          have hn2 : N ≤ 16384 := by rw [← hNn]; exact Nat.mul_le_mul (show w.toNat ≤ 128 by omega) (show hh.toNat ≤ 128 by omega)
          by_cases hlt : i < N
          · have tmw : (i : Int).tmod w = ((i % w.toNat : Nat) : Int) := by rw [Int.tmod_eq_emod_of_nonneg (by omega), Int.natCast_emod, Int.toNat_of_nonneg (by omega)]
            have tdw : IntKind.wrap .i64 ((i : Int).tdiv w) = ((i / w.toNat : Nat) : Int) := by
              have : (i : Int).tdiv w = ((i / w.toNat : Nat) : Int) := by rw [Int.tdiv_eq_ediv_of_nonneg (by omega), Int.natCast_ediv, Int.toNat_of_nonneg (by omega)]
              have h9 : i / w.toNat ≤ i := Nat.div_le_self _ _
              rw [this]
              generalize i / w.toNat = q at *
              exact wrap_small (by omega) (by omega)
            have ww : IntKind.wrap .i64 (w * hh) = (N : Int) := hwm.trans hwh
            generalize ha : ((i % w.toNat : Nat) : Int) = a at *
            generalize hb : ((i / w.toNat : Nat) : Int) = c at *
            have c1 : (decide (octC t1 t2 a c < octC t1 t2 b.1 b.2) && willP ⟨w, hh, tiles, bl, []⟩ L T cl sz f1 f2 a c) = false := by
              cases hwl : willP ⟨w, hh, tiles, bl, []⟩ L T cl sz f1 f2 a c with
              | false => exact Bool.and_false _
              | true =>
                have : octC t1 t2 b.1 b.2 ≤ octC t1 t2 a c := p3 (a, c) (hmem _ _ hwl) hwl
                rw [decide_eq_false (by omega)]; rfl
            have wi := wrap_succ (show i ≤ 4611686018427387903 by omega)
            have d1 : decide ((i : Int) < (N : Int)) = true := decide_eq_true (by omega)
            cases hoc : decide (octC t1 t2 a c < octC t1 t2 b.1 b.2) with
            | false =>
              simp (maxDischargeDepth := 8) only [go_sem, hw, ww, d1, show (w = 0) = False from eq_false (by omega), tmw, tdw, r_ref03_Octile, octJ_C, hoc, wi, sv.l, sv.c, sv.k, sv.o]
              rw [KL_keep _ _ _ (by simp (maxDischargeDepth := 8) only [go_sem, sv.l])]
              simp (maxDischargeDepth := 8) only [go_sem]
              exact ih (i + 1) (by omega) (by omega)
            | true =>
              rw [hoc, Bool.true_and] at c1
              simp (maxDischargeDepth := 8) only [go_sem, hw, ww, d1, show (w = 0) = False from eq_false (by omega), tmw, tdw, r_ref03_Octile, octJ_C, hoc, hWl, c1, wi, sv.l, sv.c, sv.k, sv.o]
              rw [KL_keep _ _ _ (by simp (maxDischargeDepth := 8) only [go_sem, sv.l])]
              simp (maxDischargeDepth := 8) only [go_sem]
              exact ih (i + 1) (by omega) (by omega)
          · have ww : IntKind.wrap .i64 (w * hh) = (N : Int) := hwm.trans hwh
            simp (maxDischargeDepth := 8) only [go_sem, hw, ww, show decide ((i : Int) < (N : Int)) = false from decide_eq_false (by omega)]
            generalize hz : RF tb f_law19_awake _ _ = z
            obtain ⟨H', u, rfl, -⟩ := aw19 hz (by simp (maxDischargeDepth := 8) only [go_sem, hw]) hl1
            simp (maxDischargeDepth := 8) only [go_sem, hw]
            exact ⟨_, rfl⟩
section
open Go.RowKit Go.WideShapes
abbrev Rt' := (Int × Int) × (Int × Int)
abbrev rectF' : Fl Rt' := Fl.pair (Fl.pair (Fl.int .i64) (Fl.int .i64)) (Fl.pair (Fl.int .i64) (Fl.int .i64))
theorem rectF'_even : rectF'.Even := ⟨fun _ => rfl⟩
def rt4 (b : Rt') : Rc := (b.1.1, b.1.2, b.2.1, b.2.2)
theorem rt4_lies {m : Mem} {v : SV} {l : List Rt'} (h : LiesD rectF' m v l) : LiesD rectF m v (l.map rt4) := by
  unfold LiesD at *
  rw [List.length_map, show (l.map rt4).flatMap rectF.enc = l.flatMap rectF'.enc by rw [List.flatMap_map]; rfl]
  exact h
abbrev AT := (Int × Int) × (Int × Int) × (Int × Int) × Sl Rt'
abbrev rdA : Rd AT := Rd.pair (Rd.flat cellF) (Rd.pair (Rd.flat cellF) (Rd.pair (Rd.flat cellF) (Rd.slice rectF')))
theorem asked_in {P : Program} {e'' : TypeId} {okC : Rt' → Prop} {b : AT} (h3 : slOk P e'' okC b.2.2.2) (h32 : P.bytesOf e'' = 32) {pre n1 : In} (e1 : n1.map (·.2) = rdA.blks b pre.length) :
    ∃ v, rdA.cells b pre.length = [.int .i64 b.1.1, .int .i64 b.1.2, .int .i64 b.2.1.1, .int .i64 b.2.1.2, .int .i64 b.2.2.1.1, .int .i64 b.2.2.1.2, v] ∧ LiesD rectF (In.mem (pre ++ n1)) v (b.2.2.2.l.map rt4) ∧ 2 * (b.2.2.2.l.map rt4).length * 32 ≤ two48 := by
  have e1 : n1.map (·.2) = slB rectF' b.2.2.2 := by simpa [Rd.pair, Rd.flat, Rd.slice] using e1
  have hl := sl_inG rectF'_even h3 (pre := pre) (post := []) (A := []) (B := []) (by simpa using e1)
  rw [List.append_nil] at hl
  exact ⟨_, rfl, rt4_lies hl, by rw [List.length_map]; exact sl_bd h3 h32⟩
theorem law19_SettleTold {P : Program} {e e' e'' : TypeId} {okB : Bl' → Prop} {okC : Rt' → Prop} (a : MT) (b : AT) (h1 : slOk P e (inR .u8) a.2.2.1) (h2 : slOk P e' okB a.2.2.2) (hB : P.bytesOf e' = 40) (h3 : slOk P e'' okC b.2.2.2) (h32 : P.bytesOf e'' = 32) {n0 n1 : In} (e0 : n0.map (·.2) = rdM.blks a 0)
    (e1 : n1.map (·.2) = rdA.blks b ([] ++ n0).length) : ∃ m', RF tb f_law19_SettleTold [.agg (rdM.cells a 0), .agg (rdA.cells b ([] ++ n0).length)] (In.mem ([] ++ n0 ++ n1)) = some (.bool true, m') := by
  rw [rdM_blks] at e0
  obtain ⟨v, e, hl, hb⟩ := asked_in h3 h32 e1
  rw [e]
  exact r_law19_SettleTold (mapIn_of (pre := []) h1 h2 hB e0) (In.wf _) (Nat.zero_le _) _ _ _ _ _ _ _ _ hl (by simp only [two48] at hb; omega)
end
end Go.Sh.T
