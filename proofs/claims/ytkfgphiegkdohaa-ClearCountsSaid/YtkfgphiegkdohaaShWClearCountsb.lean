import Derived.Test.YtkfgphiegkdohaaShWClearCountsa
import Derived.Test.YtkfgphiegkdohaaShArg
set_option linter.all false
set_option linter.unusedVariables false
set_option linter.unusedSimpArgs false
set_option autoImplicit false
namespace Go.Sh.T
open Go.Sh
set_option maxHeartbeats 8000000
set_option maxRecDepth 20000
structure MapIn (X : Mem) (tv bv : SV) (tiles : List Int) (bl : List Bld) : Prop where
  t : LiesD byteF (Hm X.heap) tv tiles
  g : ∀ t ∈ tiles, 0 ≤ t ∧ t ≤ 255
  b : LiesD bldF (Hm X.heap) bv bl
  n : bl.length ≤ two48
theorem both_of {X : Mem} {tv bv : SV} {tiles : List Int} {bl : List Bld} {w hh : Int} {z : Option (SV × Mem)} (hz : RF tb f_law06_Both [.agg [.int .i64 w, .int .i64 hh, tv, bv]] X = z) (hm : MapIn X tv bv tiles bl) (hw : X.Wf) (hhb : X.hb ≤ X.hl) :
    (∃ H' u, z = some (.tup [.nilp, .nilp, .bool false], (X.hp H').es (escMin X.esc u)) ∧ Keep [] X.heap H') ∨
    (∃ H' u p q, z = some (.tup [.ptr (.hp p.k 0) 0, .ptr (.hp q.k 0) 0, .bool true], (X.hp H').es (escMin X.esc u)) ∧
    WorldOwn H' p ⟨w, hh, tiles, bl, []⟩ ∧ RefOwn H' q ⟨w, hh, tiles, bl, []⟩ bl ∧ Wd.Good ⟨w, hh, tiles, bl, []⟩ ∧ Keep [] X.heap H' ∧ (∀ i ∈ p.fp, X.heap.length ≤ i ∧ i ∉ q.fp) ∧ (∀ i ∈ q.fp, X.heap.length ≤ i)) := by
  rw [← hz]
  cases hc : chkB w hh tiles bl with
  | false => exact .inl (r_law06_Both_no hm.t hm.g hm.b hm.n hw hhb w hh hc)
  | true =>
    right
    obtain ⟨H', u, p, q, h1, h2, h3, h4, h5, h6⟩ := r_law06_Both hm.t hm.g hm.b hm.n hw hhb w hh hc
    exact ⟨H', u, p, q, h1, h2, h3, fun x hx => ⟨(hm.g x hx).1, (chk_in hc).2.2.2.2.1 x hx⟩, h4, h5, h6⟩
/-- Rounds, each of which keeps what lies behind, or notes it. -/
inductive RoundsN (F : Tbl) (b : Bk) (P : Mem → Prop) (H : Nat) : List (List SV) → Mem → Option Nat → Mem → Option Nat → Bool → Prop
  | nil (m : Mem) (u : Option Nat) : RoundsN F b P H [] m u m u true
  | stop {x : List SV} {L : List (List SV)} {m m' : Mem} {u d : Option Nat} (h : Yields F b x m m' d false) (hp : P m') (hk : m'.hl = m.hl ∨ ∃ k, d = some k ∧ k < H) : RoundsN F b P H (x :: L) m u m' (escMin u d) false
  | next {x : List SV} {L : List (List SV)} {m m' m'' : Mem} {u d u' : Option Nat} {go : Bool} (h : Yields F b x m m' d true) (hp : P m') (hk : m'.hl = m.hl ∨ ∃ k, d = some k ∧ k < H) (t : RoundsN F b P H L m' (escMin u d) m'' u' go) : RoundsN F b P H (x :: L) m u m'' u' go
theorem noted_next {H : Nat} {m m' : Mem} {u d : Option Nat} (h : Noted H m u) (hk : m'.hl = m.hl ∨ ∃ k, d = some k ∧ k < H) : Noted H m' (escMin u d) := by
  rcases hk with hk | ⟨k, rfl, hk⟩
  · rcases h with h | ⟨j, rfl, hj⟩
    · exact .inl (hk.trans h)
    · cases d with
      | none => exact .inr ⟨j, rfl, hj⟩
      | some d => exact .inr ⟨min j d, rfl, by omega⟩
  · cases u with
    | none => exact .inr ⟨k, rfl, hk⟩
    | some j => exact .inr ⟨min j k, rfl, by omega⟩
theorem RoundsN.noted {F : Tbl} {b : Bk} {P : Mem → Prop} {H : Nat} {L : List (List SV)} {m m' : Mem} {u u' : Option Nat} {go : Bool} (h : RoundsN F b P H L m u m' u' go) (h0 : Noted H m u) : Noted H m' u' := by
  induction h with
  | nil => exact h0
  | stop _ _ hk => exact noted_next h0 hk
  | next _ _ hk _ ih => exact ih (noted_next h0 hk)
theorem RoundsN.weak {F : Tbl} {b : Bk} {P : Mem → Prop} {H H' : Nat} {L : List (List SV)} {m m' : Mem} {u u' : Option Nat} {go : Bool} (h : RoundsN F b P H L m u m' u' go) (hh : H ≤ H') : RoundsN F b P H' L m u m' u' go := by
  induction h with
  | nil => exact .nil _ _
  | stop h hp hk => exact .stop h hp (hk.imp_right fun ⟨k, h1, h2⟩ => ⟨k, h1, by omega⟩)
  | next h hp hk _ ih => exact .next h hp (hk.imp_right fun ⟨k, h1, h2⟩ => ⟨k, h1, by omega⟩) ih
theorem RoundsN.last {F : Tbl} {b : Bk} {P : Mem → Prop} {H : Nat} {L : List (List SV)} {m m' : Mem} {u u' : Option Nat} {go : Bool} (h : RoundsN F b P H L m u m' u' go) (h0 : P m) : P m' := by
  induction h with
  | nil => exact h0
  | stop _ hp => exact hp
  | next _ hp _ _ ih => exact ih hp
theorem stands_has {W : Wd} {cl sz x y : Int} (h : W.stands cl sz x y = true) : W.has x y = true := by
  simp only [Wd.stands, Bool.and_eq_true] at h
  have h := h.1
  unfold footR at h
  split at h
  · simp only [withinB, Bool.and_eq_true] at h
    exact h.1.2
  · simp only [withinB, Bool.and_eq_true] at h
    have : mayB 0 0 0 0 = true := h.1.1
    exact absurd this (by decide)
theorem stands_in {W : Wd} {cl sz x y : Int} (h : W.stands cl sz x y = true) : footR cl sz x y = (x, y, sz, sz) ∧ mayS cl sz = true ∧ mayB x y sz sz = true ∧ W.has x y = true ∧ W.has (x + sz - 1) (y + sz - 1) = true ∧ ∀ a b, hasB x y sz sz a b = true → W.free cl a b = true := by
  have hf : footR cl sz x y = (x, y, sz, sz) ∧ mayS cl sz = true ∧ mayB x y sz sz = true := by
    unfold footR
    split
    · rename_i hc; rw [Bool.and_eq_true] at hc; exact ⟨rfl, hc.1, hc.2⟩
    · rename_i hc
      unfold Wd.stands footR at h
      rw [if_neg hc] at h
      simp only [withinB, Bool.and_eq_true] at h
      exact absurd h.1.1.1 (by decide)
  unfold Wd.stands at h
  rw [hf.1] at h
  simp only [withinB, Bool.and_eq_true, Bool.not_eq_true'] at h
  obtain ⟨⟨⟨h1, h2⟩, h3⟩, h4⟩ := h
  have hl := may_last h1
  rw [hl.1, hl.2] at h3
  refine ⟨hf.1, hf.2.1, hf.2.2, h2, h3, fun a b hab => ?_⟩
  have := List.any_eq_false.1 h4 (a, b) (cellsP_mem.2 hab)
  simpa using this
theorem may_sub {x y w h w' h' : Int} (hm : mayB x y w h = true) (h1 : 1 ≤ w' ∧ w' ≤ w) (h2 : 1 ≤ h' ∧ h' ≤ h) : mayB x y w' h' = true := by
  have a1 := may_in hm
  have a2 := may_sides hm
  have a3 := may_last hm
  rw [a3.1, a3.2] at a1
  have e1 : lastX x w' = x + w' - 1 := by unfold lastX; rw [wrap_small (x := x + w') (by omega) (by omega), wrap_small (by omega) (by omega)]
  have e2 : lastX y h' = y + h' - 1 := by unfold lastX; rw [wrap_small (x := y + h') (by omega) (by omega), wrap_small (by omega) (by omega)]
  simp only [mayB, nearC, nearP, sideB, e1, e2, Bool.and_eq_true, decide_eq_true_eq]
  omega
theorem stands_of {W : Wd} {cl sz x y : Int} (h1 : mayS cl sz = true) (h2 : mayB x y sz sz = true) (h3 : W.has x y = true) (h4 : W.has (x + sz - 1) (y + sz - 1) = true) (h5 : ∀ a b, hasB x y sz sz a b = true → W.free cl a b = true) : W.stands cl sz x y = true := by
  have hf : footR cl sz x y = (x, y, sz, sz) := by unfold footR; rw [h1, h2]; rfl
  unfold Wd.stands
  rw [hf]
  have hl := may_last h2
  simp only [withinB, Bool.and_eq_true, Bool.not_eq_true', hl.1, hl.2]
  refine ⟨⟨⟨h2, h3⟩, h4⟩, ?_⟩
  rw [List.any_eq_false]
  rintro ⟨a, b⟩ hab
  simpa using h5 a b (cellsP_mem.1 hab)
theorem stands_small {W : Wd} {cl sz x y n : Int} (h : W.stands cl sz x y = true) (hn : 1 ≤ n ∧ n ≤ sz) : W.stands cl n x y = true := by
  obtain ⟨-, h1, h2, h3, h4, h5⟩ := stands_in h
  have hm := may_sub h2 hn hn
  refine stands_of ?_ hm h3 ?_ fun a b hab => h5 a b ?_
  · simp only [mayS, Bool.and_eq_true, decide_eq_true_eq] at h1 ⊢; omega
  · have a1 := has_iff.1 h3
    have a2 := has_iff.1 h4
    exact has_iff.2 ⟨a1.1, by omega⟩
  · have := has_iff.1 hab
    exact has_iff.2 ⟨h2, by omega⟩
section
open Go.RowKit Go.WideShapes
theorem slB_cases {α : Type} (d : Fl α) (s : Sl α) : slB d s = [] ∨ slB d s = [s.l.flatMap d.enc] := by
  unfold slB; split <;> simp
theorem blk_at {n0 : In} {L : List (List SV)} (h : n0.map (·.2) = L) {j : Nat} {c : List SV} (hj : L[j]? = some c) (pre post : In) : ∃ t, (pre ++ n0 ++ post)[pre.length + j]? = some (t, c) := by
  rw [← h, List.getElem?_map] at hj
  cases hx : n0[j]? with
  | none => rw [hx] at hj; cases hj
  | some x =>
    rw [hx] at hj
    simp only [Option.map_some, Option.some.injEq] at hj
    have hlt := (List.getElem?_eq_some_iff.1 hx).1
    refine ⟨x.1, ?_⟩
    rw [List.append_assoc, List.getElem?_append_right (Nat.le_add_right _ _), Nat.add_sub_cancel_left, List.getElem?_append_left hlt, hx, ← hj]
/-- A slice that came in. -/
theorem sl_inG {α : Type} {d : Fl α} (hd : d.Even) {P : Program} {e : TypeId} {ok : α → Prop} {s : Sl α} (hok : slOk P e ok s) {pre n0 post : In} {A B : List (List SV)} (e0 : n0.map (·.2) = A ++ slB d s ++ B) : LiesD d (In.mem (pre ++ n0 ++ post)) (slV d s (pre.length + A.length)) s.l := by
  refine lies_in hd hok.2.2.2.1 hok.2.2.2.2 ?_
  rcases slB_cases d s with h | h
  · exact .inl h
  · refine .inr ⟨_, h, ?_⟩
    rw [h] at e0
    obtain ⟨t, ht⟩ := blk_at e0 (j := A.length) (c := s.l.flatMap d.enc) (by simp) pre post
    exact In.get (x := (t, _)) ht
theorem sl_bd {α : Type} {P : Program} {e : TypeId} {ok : α → Prop} {s : Sl α} (hok : slOk P e ok s) {b : Nat} (hb : P.bytesOf e = b) : 2 * s.l.length * b ≤ two48 := by
  have := hok.2.1
  rw [hb] at this
  have h2 : 2 * s.l.length * b = 2 * (s.l.length * b) := Nat.mul_assoc _ _ _
  simp only [two48, reachBytes, maxLen] at *
  omega
abbrev Bl' := Int × ((Int × Int) × (Int × Int))
abbrev bldF' : Fl Bl' := Fl.pair (Fl.int .i64) (Fl.pair (Fl.pair (Fl.int .i64) (Fl.int .i64)) (Fl.pair (Fl.int .i64) (Fl.int .i64)))
theorem bldF'_even : bldF'.Even := ⟨fun _ => rfl⟩
def bl5 (b : Bl') : Bld := (b.1, b.2.1.1, b.2.1.2, b.2.2.1, b.2.2.2)
theorem bl5_lies {m : Mem} {v : SV} {l : List Bl'} (h : LiesD bldF' m v l) : LiesD bldF m v (l.map bl5) := by
  unfold LiesD at *
  rw [List.length_map, show (l.map bl5).flatMap bldF.enc = l.flatMap bldF'.enc by rw [List.flatMap_map]; rfl]
  exact h
abbrev MT := Int × Int × Sl Int × Sl Bl'
abbrev rdM : Rd MT := Rd.pair (Rd.flat (Fl.int .i64)) (Rd.pair (Rd.flat (Fl.int .i64)) (Rd.pair (Rd.slice byteF) (Rd.slice bldF')))
theorem rdM_blks (a : MT) (n : Nat) : rdM.blks a n = slB byteF a.2.2.1 ++ slB bldF' a.2.2.2 := by simp [rdM, Rd.pair, Rd.flat, Rd.slice]
theorem rdM_cells (a : MT) (n : Nat) : rdM.cells a n = [.int .i64 a.1, .int .i64 a.2.1, slV byteF a.2.2.1 n, slV bldF' a.2.2.2 (n + (slB byteF a.2.2.1).length)] := rfl
theorem mapIn_of {P : Program} {e e' : TypeId} {okB : Bl' → Prop} {t : Sl Int} {b : Sl Bl'} (h1 : slOk P e (inR .u8) t) (h2 : slOk P e' okB b) (hB : P.bytesOf e' = 40) {pre n0 post : In} (e0 : n0.map (·.2) = slB byteF t ++ slB bldF' b) :
    MapIn (In.mem (pre ++ n0 ++ post)) (slV byteF t pre.length) (slV bldF' b (pre.length + (slB byteF t).length)) t.l (b.l.map bl5) := by
  refine ⟨?_, fun x hx => inR_u8 (h1.2.2.1 x hx), ?_, ?_⟩
  · have := sl_inG byteF_even h1 (pre := pre) (post := post) (A := []) (B := slB bldF' b) e0
    exact this
  · have := sl_inG bldF'_even h2 (pre := pre) (post := post) (A := slB byteF t) (B := []) (by rw [List.append_nil]; exact e0)
    exact bl5_lies this
  · have := sl_bd h2 hB
    rw [List.length_map]
    omega
end
def Wd.clr (W : Wd) (cl x y : Int) : Int := if W.stands cl 4 x y then 4 else if W.stands cl 3 x y then 3 else if W.stands cl 2 x y then 2 else if W.stands cl 1 x y then 1 else 0
theorem clr_in (W : Wd) (cl x y : Int) : 0 ≤ W.clr cl x y ∧ W.clr cl x y ≤ 4 := by
  unfold Wd.clr
  split
  · decide
  · split
    · decide
    · split
      · decide
      · split <;> decide
theorem clr_uniq {W : Wd} {cl x y n : Int} (h0 : 0 ≤ n ∧ n ≤ 4) (h : ∀ s, 1 ≤ s → s ≤ 4 → (W.stands cl s x y = true ↔ s ≤ n)) : W.clr cl x y = n := by
  have h1 := h 1 (by decide) (by decide)
  have h2 := h 2 (by decide) (by decide)
  have h3 := h 3 (by decide) (by decide)
  have h4 := h 4 (by decide) (by decide)
  unfold Wd.clr
  simp only [h1, h2, h3, h4]
  split
  · omega
  · split
    · omega
    · split
      · omega
      · split <;> omega
theorem clr_iff {W : Wd} {cl x y s : Int} (h1 : 1 ≤ s) (h2 : s ≤ 4) : W.stands cl s x y = true ↔ s ≤ W.clr cl x y := by
  have m4 : W.stands cl 4 x y = true → W.stands cl 3 x y = true := fun h => stands_small h (by decide)
  have m3 : W.stands cl 3 x y = true → W.stands cl 2 x y = true := fun h => stands_small h (by decide)
  have m2 : W.stands cl 2 x y = true → W.stands cl 1 x y = true := fun h => stands_small h (by decide)
  have hs : s = 1 ∨ s = 2 ∨ s = 3 ∨ s = 4 := by omega
  unfold Wd.clr
  rcases hs with rfl | rfl | rfl | rfl
  all_goals
    generalize W.stands cl 4 x y = b4 at *
    generalize W.stands cl 3 x y = b3 at *
    generalize W.stands cl 2 x y = b2 at *
    generalize W.stands cl 1 x y = b1 at *
    cases b4 <;> cases b3 <;> cases b2 <;> cases b1 <;> simp_all
theorem last_eq {x t : Int} (hx : -1000000 ≤ x ∧ x ≤ 1000000) (ht : -1000000 ≤ t ∧ t ≤ 1000000) : lastX x t = x + t - 1 := by
  unfold lastX
  rw [wrap_small (x := x + t) (by omega) (by omega), wrap_small (x := x + t - 1) (by omega) (by omega)]
theorem mayB_small {x y t : Int} (hx : -10 ≤ x ∧ x ≤ 200) (hy : -10 ≤ y ∧ y ≤ 200) (ht : 1 ≤ t ∧ t ≤ 10) : mayB x y t t = true := by
  rw [mayB, last_eq (by omega) (by omega), last_eq (by omega) (by omega)]
  simp only [nearC, nearP, sideB, Bool.and_eq_true, decide_eq_true_eq]
  omega
theorem mayS_in {cl sz : Int} : mayS cl sz = true ↔ (0 ≤ cl ∧ cl < 4) ∧ 1 ≤ sz ∧ sz ≤ 4 := by
  simp only [mayS, Bool.and_eq_true, decide_eq_true_eq]; omega
theorem has_w {W : Wd} (w1 : 1 ≤ W.w ∧ W.w ≤ 128) (w2 : 1 ≤ W.h ∧ W.h ≤ 128) {a b : Int} : W.has a b = true ↔ 0 ≤ a ∧ a < W.w ∧ 0 ≤ b ∧ b < W.h := by
  unfold Wd.has
  rw [has_iff]
  constructor
  · intro h; omega
  · intro h
    refine ⟨?_, by omega⟩
    rw [mayB, last_eq (by omega) (by omega), last_eq (by omega) (by omega)]
    simp only [nearC, nearP, sideB, Bool.and_eq_true, decide_eq_true_eq]
    omega
theorem stands_iff {W : Wd} (w1 : 1 ≤ W.w ∧ W.w ≤ 128) (w2 : 1 ≤ W.h ∧ W.h ≤ 128) {cl sz x y : Int} : W.stands cl sz x y = true ↔ ((0 ≤ cl ∧ cl < 4) ∧ 1 ≤ sz ∧ sz ≤ 4) ∧ (0 ≤ x ∧ x + sz ≤ W.w) ∧ (0 ≤ y ∧ y + sz ≤ W.h) ∧ ∀ a b, x ≤ a → a < x + sz → y ≤ b → b < y + sz → W.free cl a b = true := by
  constructor
  · intro h
    obtain ⟨h1, h2, h3, h4, h5, h6⟩ := stands_in h
    rw [has_w w1 w2] at h4 h5
    rw [mayS_in] at h2
    refine ⟨h2, by omega, by omega, fun a b a1 a2 b1 b2 => h6 a b (has_iff.2 ⟨h3, by omega⟩)⟩
  · rintro ⟨h1, h2, h3, h4⟩
    refine stands_of (mayS_in.2 h1) (mayB_small (by omega) (by omega) (by omega)) ((has_w w1 w2).2 (by omega)) ((has_w w1 w2).2 (by omega)) fun a b hab => ?_
    have := has_iff.1 hab
    exact h4 a b (by omega) (by omega) (by omega) (by omega)
theorem stands_grow {W : Wd} (w1 : 1 ≤ W.w ∧ W.w ≤ 128) (w2 : 1 ≤ W.h ∧ W.h ≤ 128) {cl t x y : Int} (ht : 1 ≤ t ∧ t ≤ 3) : W.stands cl (t + 1) x y = true ↔ W.stands cl 1 x y = true ∧ W.stands cl t (x + 1) y = true ∧ W.stands cl t x (y + 1) = true ∧ W.stands cl t (x + 1) (y + 1) = true := by
  simp only [stands_iff w1 w2]
  constructor
  · rintro ⟨h1, h2, h3, h4⟩
    refine ⟨⟨by omega, by omega, by omega, fun a b _ _ _ _ => h4 a b (by omega) (by omega) (by omega) (by omega)⟩, ⟨by omega, by omega, by omega, fun a b _ _ _ _ => h4 a b (by omega) (by omega) (by omega) (by omega)⟩, ⟨by omega, by omega, by omega, fun a b _ _ _ _ => h4 a b (by omega) (by omega) (by omega) (by omega)⟩, ⟨by omega, by omega, by omega, fun a b _ _ _ _ => h4 a b (by omega) (by omega) (by omega) (by omega)⟩⟩
  · rintro ⟨⟨a1, a2, a3, a4⟩, ⟨b1, b2, b3, b4⟩, ⟨c1, c2, c3, c4⟩, ⟨d1, d2, d3, d4⟩⟩
    refine ⟨by omega, by omega, by omega, fun a b e1 e2 e3 e4 => ?_⟩
    by_cases f1 : x + 1 ≤ a
    · by_cases f2 : b < y + t
      · exact b4 a b f1 (by omega) (by omega) (by omega)
      · exact d4 a b f1 (by omega) (by omega) (by omega)
    · by_cases f2 : y + 1 ≤ b
      · exact c4 a b (by omega) (by omega) f2 (by omega)
      · exact a4 a b (by omega) (by omega) (by omega) (by omega)
theorem mnI_eqF (a b : Int) : (mnI a b = a ∨ mnI a b = b) ∧ mnI a b ≤ a ∧ mnI a b ≤ b := by unfold mnI; split <;> omega
theorem clr_step {W : Wd} (w1 : 1 ≤ W.w ∧ W.w ≤ 128) (w2 : 1 ≤ W.h ∧ W.h ≤ 128) (cl x y : Int) : W.clr cl x y = if W.stands cl 1 x y then 1 + mnI (mnI (mnI (W.clr cl (x + 1) y) (W.clr cl x (y + 1))) (W.clr cl (x + 1) (y + 1))) 3 else 0 := by
  have i1 := clr_in W cl (x + 1) y
  have i2 := clr_in W cl x (y + 1)
  have i3 := clr_in W cl (x + 1) (y + 1)
  have e1 := mnI_eqF (W.clr cl (x + 1) y) (W.clr cl x (y + 1))
  have e2 := mnI_eqF (mnI (W.clr cl (x + 1) y) (W.clr cl x (y + 1))) (W.clr cl (x + 1) (y + 1))
  have e3 := mnI_eqF (mnI (mnI (W.clr cl (x + 1) y) (W.clr cl x (y + 1))) (W.clr cl (x + 1) (y + 1))) 3
  split
  · rename_i h1
    refine clr_uniq (by omega) fun s s1 s2 => ?_
    by_cases hs : s = 1
    · subst hs
      exact ⟨fun _ => by omega, fun _ => h1⟩
    · have hg := stands_grow w1 w2 (cl := cl) (t := s - 1) (x := x) (y := y) (by omega)
      rw [show s - 1 + 1 = s by omega] at hg
      rw [hg, clr_iff (s := s - 1) (by omega) (by omega), clr_iff (s := s - 1) (by omega) (by omega), clr_iff (s := s - 1) (by omega) (by omega)]
      constructor
      · rintro ⟨_, g1, g2, g3⟩; omega
      · intro g; exact ⟨h1, by omega, by omega, by omega⟩
  · rename_i h1
    refine clr_uniq (by omega) fun s s1 s2 => ⟨fun h => absurd (stands_small h ⟨by decide, s1⟩) h1, fun h => by omega⟩
theorem r_ref06_Clear {m : Mem} {p : QP} {W : Wd} {bl : List Bld} (hV : RefAt m p W bl) (ho : ∀ a b, (atL bl a b).isSome = (atL W.bl a b).isSome) (hg : W.Good) {X : Mem} (hX : HpSub m X) (hw : X.Wf) (cl x y : Int) : RF tb f_ref06_Clear [.ptr (.hp p.k 0) 0, .int .i64 cl, cellV x y] X = some (.int .i64 (W.clr cl x y), X) := by
  rw [RF_go t_ref06_Clear _ _ rfl]
  simp (maxDischargeDepth := 8) only [go_sem, reduceIte, reduceCtorEq, Nat.reduceEqDiff, Nat.reduceAdd, Nat.reduceMul, Nat.reduceSub, Nat.reduceLeDiff, Nat.reduceLT, Nat.reduceBEq, Int.reduceToNat, Int.reduceEq, Int.reduceLT, Int.reduceLE, Int.reduceAdd, Int.reduceSub, Int.reduceMul, Int.reduceNeg, s_ref06_Clear, cellV, hw]
  rw [KL_keep _ _ _ (by simp (maxDischargeDepth := 8) only [go_sem, reduceIte, reduceCtorEq, Nat.reduceEqDiff, Nat.reduceAdd, Nat.reduceMul, Nat.reduceSub, Nat.reduceLeDiff, Nat.reduceLT, Nat.reduceBEq, Int.reduceToNat, Int.reduceEq, Int.reduceLT, Int.reduceLE, Int.reduceAdd, Int.reduceSub, Int.reduceMul, Int.reduceNeg])]
  simp (maxDischargeDepth := 8) only [go_sem, reduceIte, reduceCtorEq, Nat.reduceEqDiff, Nat.reduceAdd, Nat.reduceMul, Nat.reduceSub, Nat.reduceLeDiff, Nat.reduceLT, Nat.reduceBEq, Int.reduceToNat, Int.reduceEq, Int.reduceLT, Int.reduceLE, Int.reduceAdd, Int.reduceSub, Int.reduceMul, Int.reduceNeg]
  have hi := clr_in W cl x y
  refine KL_indE (α := Nat × Int) (fun q => 4 - q.1) (fun q => [(0, .ptr (.hp p.k 0) 0), (1, .int .i64 cl), (5, .ptr (.st X.dep 0) 0), (7, .int .i64 q.2), (8, .int .i64 ((q.1 + 1 : Nat) : Int))]) (fun q => X.fr [.cells true [.int .i64 x, .int .i64 y]] none)
    (fun q => q.1 ≤ 4 ∧ q.2 = mnI (W.clr cl x y) (q.1 : Int)) ?_ (0, 0) ⟨Nat.zero_le _, by dsimp only; unfold mnI; split <;> omega⟩
  rintro ⟨n, v⟩ ⟨hn, hv⟩ ih
  dsimp only at hn hv ⊢
  simp (maxDischargeDepth := 8) only [go_sem, reduceIte, reduceCtorEq, Nat.reduceEqDiff, Nat.reduceAdd, Nat.reduceMul, Nat.reduceSub, Nat.reduceLeDiff, Nat.reduceLT, Nat.reduceBEq, Int.reduceToNat, Int.reduceEq, Int.reduceLT, Int.reduceLE, Int.reduceAdd, Int.reduceSub, Int.reduceMul, Int.reduceNeg, hw]
  by_cases h4 : n < 4
  · simp (maxDischargeDepth := 8) only [go_sem, reduceIte, reduceCtorEq, Nat.reduceEqDiff, Nat.reduceAdd, Nat.reduceMul, Nat.reduceSub, Nat.reduceLeDiff, Nat.reduceLT, Nat.reduceBEq, Int.reduceToNat, Int.reduceEq, Int.reduceLT, Int.reduceLE, Int.reduceAdd, Int.reduceSub, Int.reduceMul, Int.reduceNeg, hw, hX, show decide (((n + 1 : Nat) : Int) ≤ 4) = true from decide_eq_true (by omega), wrap_succ (show n + 1 ≤ 4611686018427387903 by omega), r_ref06_Stands hV ho hg]
    have hc := clr_iff (W := W) (cl := cl) (x := x) (y := y) (s := ((n + 1 : Nat) : Int)) (by omega) (by omega)
    cases hs : W.stands cl ((n + 1 : Nat) : Int) x y with
    | true =>
      simp (maxDischargeDepth := 8) only [go_sem, reduceIte, reduceCtorEq, Nat.reduceEqDiff, Nat.reduceAdd, Nat.reduceMul, Nat.reduceSub, Nat.reduceLeDiff, Nat.reduceLT, Nat.reduceBEq, Int.reduceToNat, Int.reduceEq, Int.reduceLT, Int.reduceLE, Int.reduceAdd, Int.reduceSub, Int.reduceMul, Int.reduceNeg, hw, wrap_succ (show n + 1 ≤ 4611686018427387903 by omega)]
      rw [KL_keep _ _ _ (by simp (maxDischargeDepth := 8) only [go_sem, reduceIte, reduceCtorEq, Nat.reduceEqDiff, Nat.reduceAdd, Nat.reduceMul, Nat.reduceSub, Nat.reduceLeDiff, Nat.reduceLT, Nat.reduceBEq, Int.reduceToNat, Int.reduceEq, Int.reduceLT, Int.reduceLE, Int.reduceAdd, Int.reduceSub, Int.reduceMul, Int.reduceNeg])]
      simp (maxDischargeDepth := 8) only [go_sem, reduceIte, reduceCtorEq, Nat.reduceEqDiff, Nat.reduceAdd, Nat.reduceMul, Nat.reduceSub, Nat.reduceLeDiff, Nat.reduceLT, Nat.reduceBEq, Int.reduceToNat, Int.reduceEq, Int.reduceLT, Int.reduceLE, Int.reduceAdd, Int.reduceSub, Int.reduceMul, Int.reduceNeg]
      have h6 := hc.1 hs
      exact ih (n + 1, ((n + 1 : Nat) : Int)) ⟨by dsimp only; omega, by dsimp only; unfold mnI; split <;> omega⟩ (by dsimp only; omega)
    | false =>
      simp (maxDischargeDepth := 8) only [go_sem, reduceIte, reduceCtorEq, Nat.reduceEqDiff, Nat.reduceAdd, Nat.reduceMul, Nat.reduceSub, Nat.reduceLeDiff, Nat.reduceLT, Nat.reduceBEq, Int.reduceToNat, Int.reduceEq, Int.reduceLT, Int.reduceLE, Int.reduceAdd, Int.reduceSub, Int.reduceMul, Int.reduceNeg, hw, wrap_succ (show n + 1 ≤ 4611686018427387903 by omega)]
      rw [KL_keep _ _ _ (by simp (maxDischargeDepth := 8) only [go_sem, reduceIte, reduceCtorEq, Nat.reduceEqDiff, Nat.reduceAdd, Nat.reduceMul, Nat.reduceSub, Nat.reduceLeDiff, Nat.reduceLT, Nat.reduceBEq, Int.reduceToNat, Int.reduceEq, Int.reduceLT, Int.reduceLE, Int.reduceAdd, Int.reduceSub, Int.reduceMul, Int.reduceNeg])]
      simp (maxDischargeDepth := 8) only [go_sem, reduceIte, reduceCtorEq, Nat.reduceEqDiff, Nat.reduceAdd, Nat.reduceMul, Nat.reduceSub, Nat.reduceLeDiff, Nat.reduceLT, Nat.reduceBEq, Int.reduceToNat, Int.reduceEq, Int.reduceLT, Int.reduceLE, Int.reduceAdd, Int.reduceSub, Int.reduceMul, Int.reduceNeg]
      have h6 : ¬ (((n + 1 : Nat) : Int) ≤ W.clr cl x y) := fun h => by rw [hs] at hc; cases hc.2 h
      exact ih (n + 1, v) ⟨by dsimp only; omega, by dsimp only; rw [hv]; unfold mnI; split <;> split <;> omega⟩ (by dsimp only; omega)
  · simp (maxDischargeDepth := 8) only [go_sem, reduceIte, reduceCtorEq, Nat.reduceEqDiff, Nat.reduceAdd, Nat.reduceMul, Nat.reduceSub, Nat.reduceLeDiff, Nat.reduceLT, Nat.reduceBEq, Int.reduceToNat, Int.reduceEq, Int.reduceLT, Int.reduceLE, Int.reduceAdd, Int.reduceSub, Int.reduceMul, Int.reduceNeg, hw, show decide (((n + 1 : Nat) : Int) ≤ 4) = false from decide_eq_false (by omega)]
    rw [hv, show mnI (W.clr cl x y) (n : Int) = W.clr cl x y by unfold mnI; split <;> omega]
abbrev iF : Fl Int := Fl.int .i64
theorem iF_even : iF.Even := ⟨fun _ => rfl⟩
theorem _root_.Go.Sh.LiesD.iaddrI {m : Mem} {v : SV} {l : List Int} (h : LiesD iF m v l) {i : Int} (h0 : 0 ≤ i) (hi : i < l.length) (k : IntKind) (m' : Mem) : iaddrV 1 v (.int k i) m' = some (.ptr (.hp (slN v) (slW v)) (slO v + i.toNat), m') := by
  have := LiesD.iaddr h (i := i.toNat) (by omega) k m'
  rw [show iF.sz = 1 from rfl, Nat.mul_one, Int.toNat_of_nonneg h0] at this
  exact this
theorem _root_.Go.Sh.LiesD.loadI {m : Mem} {v : SV} {l : List Int} (h : LiesD iF m v l) {i : Nat} {a : Int} (hi : l[i]? = some a) {X : Mem} (hX : HpSub m X) : X.load (.hp (slN v) (slW v)) (slO v + i) none = some (.int .i64 a) := by
  have := LiesD.load1 iF_even (h.sub hX) hi (j := 0) (by decide)
  rw [show iF.sz = 1 from rfl, Nat.mul_one, Nat.add_zero] at this
  exact this
theorem storeI {H : Hp} {v : SV} {l : List Int} (hv : Own iF H v l) {i : Nat} (hi : i < l.length) (X : Mem) (hm : ∀ i ∈ slFp v, X.hb ≤ i) (a : Int) :
    ∃ H', (∀ f e, ((X.hp H).fr f e).store (.hp (slN v) (slW v)) (slO v + i) [.int .i64 a] = some ((X.hp H').fr f e)) ∧ Own iF H' v (l.set i a) ∧ Keep (slFp v) H H' ∧ H'.length = H.length := by
  obtain ⟨H', h1, h2⟩ := store_own iF_even (by decide) (fun _ => rfl) (fun _ => rfl) hv hi X hm a
  refine ⟨H', fun f e => ?_, h2⟩
  have := h1 f e
  rw [show iF.sz = 1 from rfl, Nat.mul_one] at this
  exact this
abbrev fieldC (p : WP) (W : Wd) (cl : Int) (lv : SV) (ep : Int) : List SV := [.ptr (.hp p.k 0) 0, .int .i64 cl, .int .i64 0, .int .i64 0, .int .i64 W.w, .int .i64 W.h, lv, .int .i64 ep]
structure FieldAt (m : Mem) (k : Nat) (p : WP) (W : Wd) (cl : Int) (lv : SV) (ep : Int) (L : List Int) : Prop where
  hd : m.get (.hp k 0) = some (.cells true (fieldC p W cl lv ep))
  ll : LiesD iF m lv L
  len : L.length = W.w.toNat * W.h.toNat
  w1 : 1 ≤ W.w ∧ W.w ≤ 128
  h1 : 1 ≤ W.h ∧ W.h ≤ 128
theorem FieldAt.ld {m : Mem} {k : Nat} {p : WP} {W : Wd} {cl : Int} {lv : SV} {ep : Int} {L : List Int} (hF : FieldAt m k p W cl lv ep L) {X : Mem} (hX : HpSub m X) (off : Nat) (n : Option Nat) : X.load (.hp k 0) off n = partv (fieldC p W cl lv ep) off n := by rw [load_get, hX _ _ _ hF.hd]
theorem FieldAt.sub {m : Mem} {k : Nat} {p : WP} {W : Wd} {cl : Int} {lv : SV} {ep : Int} {L : List Int} (hF : FieldAt m k p W cl lv ep L) {X : Mem} (hX : HpSub m X) : FieldAt X k p W cl lv ep L := ⟨hX _ _ _ hF.hd, hF.ll.sub hX, hF.len, hF.w1, hF.h1⟩
def Wd.at' (W : Wd) (L : List Int) (x y : Int) : Int := if W.has x y then L.getD (y * W.w + x).toNat 0 else 0
theorem idx_in {W : Wd} (w1 : 1 ≤ W.w ∧ W.w ≤ 128) (w2 : 1 ≤ W.h ∧ W.h ≤ 128) {x y : Int} (h : W.has x y = true) : 0 ≤ y * W.w ∧ y * W.w ≤ 16384 ∧ 0 ≤ x ∧ x < W.w ∧ 0 ≤ y ∧ y < W.h ∧ (y * W.w + x).toNat = y.toNat * W.w.toNat + x.toNat ∧ y.toNat * W.w.toNat + x.toNat < W.w.toNat * W.h.toNat := by
  have h1 := (has_w w1 w2).1 h
  have e5 : y * W.w = ((y.toNat * W.w.toNat : Nat) : Int) := by rw [Int.natCast_mul, Int.toNat_of_nonneg h1.2.2.1, Int.toNat_of_nonneg (show 0 ≤ W.w by omega)]
  have e6 : W.w.toNat * (y.toNat + 1) ≤ W.w.toNat * W.h.toNat := Nat.mul_le_mul_left _ (by omega)
  have e4 : W.w.toNat * W.h.toNat ≤ 128 * 128 := Nat.mul_le_mul (by omega) (by omega)
  rw [Nat.mul_add, Nat.mul_comm] at e6
  omega
theorem r_clear_At {m : Mem} {k : Nat} {p : WP} {W : Wd} {cl : Int} {lv : SV} {ep : Int} {L : List Int} (hF : FieldAt m k p W cl lv ep L) {X : Mem} (hX : HpSub m X) (hw : X.Wf) (x y : Int) : RF tb f_clear_Field_At [.ptr (.hp k 0) 0, cellV x y] X = some (.int .i64 (W.at' L x y), X) := by
  rw [RF_go t_clear_Field_At _ _ rfl]
  simp (maxDischargeDepth := 8) only [go_sem, reduceIte, reduceCtorEq, Nat.reduceEqDiff, Nat.reduceAdd, Nat.reduceMul, Nat.reduceSub, Nat.reduceLeDiff, Nat.reduceLT, Nat.reduceBEq, Int.reduceToNat, Int.reduceEq, Int.reduceLT, Int.reduceLE, Int.reduceAdd, Int.reduceSub, Int.reduceMul, Int.reduceNeg, s_clear_Field_At, cellV, hw, hX, hF.ld, fieldC, r_cell_Has]
  unfold Wd.at'
  cases h1 : W.has x y with
  | false =>
    have h1' : hasB 0 0 W.w W.h x y = false := h1
    simp (maxDischargeDepth := 8) only [go_sem, reduceIte, reduceCtorEq, Nat.reduceEqDiff, Nat.reduceAdd, Nat.reduceMul, Nat.reduceSub, Nat.reduceLeDiff, Nat.reduceLT, Nat.reduceBEq, Int.reduceToNat, Int.reduceEq, Int.reduceLT, Int.reduceLE, Int.reduceAdd, Int.reduceSub, Int.reduceMul, Int.reduceNeg, hw, h1']
  | true =>
    have h1' : hasB 0 0 W.w W.h x y = true := h1
    have w1 := hF.w1
    have w2 := hF.h1
    obtain ⟨i1, i2, i3, i4, i5, i6, i7, i8⟩ := idx_in w1 w2 h1
    have hel : L[(y * W.w + x).toNat]? = some (L.getD (y * W.w + x).toNat 0) := by
      rw [List.getD_eq_getElem?_getD]
      have : (y * W.w + x).toNat < L.length := by rw [hF.len]; omega
      rw [List.getElem?_eq_getElem this]
      rfl
    simp (maxDischargeDepth := 8) only [go_sem, reduceIte, reduceCtorEq, Nat.reduceEqDiff, Nat.reduceAdd, Nat.reduceMul, Nat.reduceSub, Nat.reduceLeDiff, Nat.reduceLT, Nat.reduceBEq, Int.reduceToNat, Int.reduceEq, Int.reduceLT, Int.reduceLE, Int.reduceAdd, Int.reduceSub, Int.reduceMul, Int.reduceNeg, hw, hX, h1', hF.ld, fieldC, wrap_small (x := y * W.w) (by omega) (by omega), wrap_small (x := y * W.w + x) (by omega) (by omega), LiesD.iaddrI hF.ll (i := y * W.w + x) (by omega) (by rw [hF.len]; omega), hF.ll.loadI hel]
theorem r_clear_tile {m : Mem} {k : Nat} {p : WP} {W : Wd} {cl : Int} {lv : SV} {ep : Int} {L : List Int} (hF : FieldAt m k p W cl lv ep L) (hW : WorldAt m p W) (hg : W.Good) {X : Mem} (hX : HpSub m X) (hw : X.Wf) (x y : Int) : RF tb f_clear_Field_tile [.ptr (.hp k 0) 0, cellV x y] X = some (.bool (W.stands cl 1 x y), X) := by
  rw [RF_go t_clear_Field_tile _ _ rfl]
  simp (maxDischargeDepth := 8) only [go_sem, reduceIte, reduceCtorEq, Nat.reduceEqDiff, Nat.reduceAdd, Nat.reduceMul, Nat.reduceSub, Nat.reduceLeDiff, Nat.reduceLT, Nat.reduceBEq, Int.reduceToNat, Int.reduceEq, Int.reduceLT, Int.reduceLE, Int.reduceAdd, Int.reduceSub, Int.reduceMul, Int.reduceNeg, s_clear_Field_tile, cellV, hw, hX, hF.ld, fieldC, r_class_Stands hW hg]
theorem r_grid_World_Epoch {m : Mem} {p : WP} {W : Wd} (hW : WorldAt m p W) {X : Mem} (hX : HpSub m X) (hw : X.Wf) : RF tb f_grid_World_Epoch [.ptr (.hp p.k 0) 0] X = some (.int .i64 W.dirty.length, X) := by
  rw [RF_go t_grid_World_Epoch _ _ rfl]
  simp (maxDischargeDepth := 8) only [go_sem, reduceIte, reduceCtorEq, Nat.reduceEqDiff, Nat.reduceAdd, Nat.reduceMul, Nat.reduceSub, Nat.reduceLeDiff, Nat.reduceLT, Nat.reduceBEq, Int.reduceToNat, Int.reduceEq, Int.reduceLT, Int.reduceLE, Int.reduceAdd, Int.reduceSub, Int.reduceMul, Int.reduceNeg, s_grid_World_Epoch, hw, hX, r_grid_World_is hW, hW.ld, hW.dl.len]
def cntGo (size : Int) : List Int → Nat
  | [] => 0
  | a :: l => (if size ≤ a then 1 else 0) + cntGo size l
theorem cnt_le (size : Int) : ∀ l : List Int, cntGo size l ≤ l.length
  | [] => Nat.le_refl _
  | a :: l => by have := cnt_le size l; simp only [cntGo, List.length_cons]; split <;> omega
theorem r_clear_Count {m : Mem} {k : Nat} {p : WP} {W : Wd} {cl : Int} {lv : SV} {ep : Int} {L : List Int} (hF : FieldAt m k p W cl lv ep L) {X : Mem} (hX : HpSub m X) (hw : X.Wf) (size : Int) : RF tb f_clear_Field_Count [.ptr (.hp k 0) 0, .int .i64 size] X = some (.int .i64 (cntGo size L : Nat), X) := by
  have e4 : W.w.toNat * W.h.toNat ≤ 128 * 128 := Nat.mul_le_mul (by have := hF.w1; omega) (by have := hF.h1; omega)
  rw [← hF.len] at e4
  have hl := hF.ll
  rw [RF_go t_clear_Field_Count _ _ rfl]
  simp (maxDischargeDepth := 8) only [go_sem, reduceIte, reduceCtorEq, Nat.reduceEqDiff, Nat.reduceAdd, Nat.reduceMul, Nat.reduceSub, Nat.reduceLeDiff, Nat.reduceLT, Nat.reduceBEq, Int.reduceToNat, Int.reduceEq, Int.reduceLT, Int.reduceLE, Int.reduceAdd, Int.reduceSub, Int.reduceMul, Int.reduceNeg, s_clear_Field_Count, hw, hX, hF.ld, fieldC, hl.len, hl.lv]
  rw [KL_keep _ _ _ (by simp (maxDischargeDepth := 8) only [go_sem, reduceIte, reduceCtorEq, Nat.reduceEqDiff, Nat.reduceAdd, Nat.reduceMul, Nat.reduceSub, Nat.reduceLeDiff, Nat.reduceLT, Nat.reduceBEq, Int.reduceToNat, Int.reduceEq, Int.reduceLT, Int.reduceLE, Int.reduceAdd, Int.reduceSub, Int.reduceMul, Int.reduceNeg, hl.lv])]
  simp (maxDischargeDepth := 8) only [go_sem, reduceIte, reduceCtorEq, Nat.reduceEqDiff, Nat.reduceAdd, Nat.reduceMul, Nat.reduceSub, Nat.reduceLeDiff, Nat.reduceLT, Nat.reduceBEq, Int.reduceToNat, Int.reduceEq, Int.reduceLT, Int.reduceLE, Int.reduceAdd, Int.reduceSub, Int.reduceMul, Int.reduceNeg]
  refine KL_indE (α := Nat × Nat) (fun a => L.length - a.1) (fun a => [(1, .int .i64 size), (5, .int .i64 (a.2 : Int)), (13, lv), (14, .i L.length), (15, .int .i64 (a.1 : Int))]) (fun _ => X.fr [] none)
    (fun a => a.1 ≤ L.length ∧ a.2 ≤ a.1 ∧ cntGo size L = a.2 + cntGo size (L.drop a.1)) ?_ (0, 0) ⟨Nat.zero_le _, Nat.zero_le _, by simp⟩
  rintro ⟨i, n⟩ ⟨hi, hn, hI⟩ ih
  dsimp only at hi hn hI ⊢
  simp (maxDischargeDepth := 8) only [go_sem, reduceIte, reduceCtorEq, Nat.reduceEqDiff, Nat.reduceAdd, Nat.reduceMul, Nat.reduceSub, Nat.reduceLeDiff, Nat.reduceLT, Nat.reduceBEq, Int.reduceToNat, Int.reduceEq, Int.reduceLT, Int.reduceLE, Int.reduceAdd, Int.reduceSub, Int.reduceMul, Int.reduceNeg, hw, hl.lv, hl.len]
  by_cases hlt : i < L.length
  · have hel : L[i]? = some L[i] := List.getElem?_eq_getElem hlt
    have hdr : L.drop i = L[i] :: L.drop (i + 1) := List.drop_eq_getElem_cons hlt
    generalize L[i] = c at hel hdr
    rw [hdr] at hI
    simp only [cntGo] at hI
    have ha := LiesD.iaddrI hl (i := (i : Int)) (by omega) (by omega)
    simp only [Int.toNat_natCast] at ha
    simp (maxDischargeDepth := 8) only [go_sem, reduceIte, reduceCtorEq, Nat.reduceEqDiff, Nat.reduceAdd, Nat.reduceMul, Nat.reduceSub, Nat.reduceLeDiff, Nat.reduceLT, Nat.reduceBEq, Int.reduceToNat, Int.reduceEq, Int.reduceLT, Int.reduceLE, Int.reduceAdd, Int.reduceSub, Int.reduceMul, Int.reduceNeg, show decide ((i : Int) < (L.length : Int)) = true from decide_eq_true (by omega), hw, hX, ha, hl.loadI hel, hl.lv]
    by_cases hs : size ≤ c
    · rw [if_pos hs] at hI
      simp (maxDischargeDepth := 8) only [go_sem, reduceIte, reduceCtorEq, Nat.reduceEqDiff, Nat.reduceAdd, Nat.reduceMul, Nat.reduceSub, Nat.reduceLeDiff, Nat.reduceLT, Nat.reduceBEq, Int.reduceToNat, Int.reduceEq, Int.reduceLT, Int.reduceLE, Int.reduceAdd, Int.reduceSub, Int.reduceMul, Int.reduceNeg, show decide (c ≥ size) = true from decide_eq_true hs, hw, hl.lv, wrap_succ (show i ≤ 4611686018427387903 by omega), wrap_succ (show n ≤ 4611686018427387903 by omega)]
      rw [KL_keep _ _ _ (by simp (maxDischargeDepth := 8) only [go_sem, reduceIte, reduceCtorEq, Nat.reduceEqDiff, Nat.reduceAdd, Nat.reduceMul, Nat.reduceSub, Nat.reduceLeDiff, Nat.reduceLT, Nat.reduceBEq, Int.reduceToNat, Int.reduceEq, Int.reduceLT, Int.reduceLE, Int.reduceAdd, Int.reduceSub, Int.reduceMul, Int.reduceNeg, hl.lv])]
      simp (maxDischargeDepth := 8) only [go_sem, reduceIte, reduceCtorEq, Nat.reduceEqDiff, Nat.reduceAdd, Nat.reduceMul, Nat.reduceSub, Nat.reduceLeDiff, Nat.reduceLT, Nat.reduceBEq, Int.reduceToNat, Int.reduceEq, Int.reduceLT, Int.reduceLE, Int.reduceAdd, Int.reduceSub, Int.reduceMul, Int.reduceNeg]
      exact ih (i + 1, n + 1) ⟨by dsimp only; omega, by dsimp only; omega, by dsimp only; omega⟩ (by dsimp only; omega)
    · rw [if_neg hs] at hI
      simp (maxDischargeDepth := 8) only [go_sem, reduceIte, reduceCtorEq, Nat.reduceEqDiff, Nat.reduceAdd, Nat.reduceMul, Nat.reduceSub, Nat.reduceLeDiff, Nat.reduceLT, Nat.reduceBEq, Int.reduceToNat, Int.reduceEq, Int.reduceLT, Int.reduceLE, Int.reduceAdd, Int.reduceSub, Int.reduceMul, Int.reduceNeg, show decide (c ≥ size) = false from decide_eq_false hs, hw, hl.lv, wrap_succ (show i ≤ 4611686018427387903 by omega)]
      rw [KL_keep _ _ _ (by simp (maxDischargeDepth := 8) only [go_sem, reduceIte, reduceCtorEq, Nat.reduceEqDiff, Nat.reduceAdd, Nat.reduceMul, Nat.reduceSub, Nat.reduceLeDiff, Nat.reduceLT, Nat.reduceBEq, Int.reduceToNat, Int.reduceEq, Int.reduceLT, Int.reduceLE, Int.reduceAdd, Int.reduceSub, Int.reduceMul, Int.reduceNeg, hl.lv])]
      simp (maxDischargeDepth := 8) only [go_sem, reduceIte, reduceCtorEq, Nat.reduceEqDiff, Nat.reduceAdd, Nat.reduceMul, Nat.reduceSub, Nat.reduceLeDiff, Nat.reduceLT, Nat.reduceBEq, Int.reduceToNat, Int.reduceEq, Int.reduceLT, Int.reduceLE, Int.reduceAdd, Int.reduceSub, Int.reduceMul, Int.reduceNeg]
      exact ih (i + 1, n) ⟨by dsimp only; omega, by dsimp only; omega, by dsimp only; omega⟩ (by dsimp only; omega)
  · obtain rfl : i = L.length := by omega
    rw [List.drop_length] at hI
    simp (maxDischargeDepth := 8) only [go_sem, reduceIte, reduceCtorEq, Nat.reduceEqDiff, Nat.reduceAdd, Nat.reduceMul, Nat.reduceSub, Nat.reduceLeDiff, Nat.reduceLT, Nat.reduceBEq, Int.reduceToNat, Int.reduceEq, Int.reduceLT, Int.reduceLE, Int.reduceAdd, Int.reduceSub, Int.reduceMul, Int.reduceNeg, show decide ((L.length : Int) < (L.length : Int)) = false from decide_eq_false (by omega), hw]
    have : cntGo size L = n := hI
    rw [this]
theorem clr_out {W : Wd} {cl x y : Int} (h : W.has x y = false) : W.clr cl x y = 0 := by
  have : ∀ s, W.stands cl s x y = false := fun s => by
    cases h1 : W.stands cl s x y with
    | false => rfl
    | true => rw [stands_has h1] at h; cases h
  simp [Wd.clr, this]
/-- Known: all cells behind one. -/
def Wd.knows (W : Wd) (cl : Int) (L : List Int) (yn xn : Nat) : Prop := ∀ a b : Nat, a < W.w.toNat → b < W.h.toNat → (yn + 1 ≤ b ∨ (b = yn ∧ xn ≤ a)) → L[b * W.w.toNat + a]? = some (W.clr cl a b)
theorem knows_at {W : Wd} (w1 : 1 ≤ W.w ∧ W.w ≤ 128) (w2 : 1 ≤ W.h ∧ W.h ≤ 128) {cl : Int} {L : List Int} {yn xn : Nat} (hk : W.knows cl L yn xn) {x y : Int} (h : (yn : Int) + 1 ≤ y ∨ (y = yn ∧ (xn : Int) ≤ x)) (h0 : 0 ≤ x) : W.at' L x y = W.clr cl x y := by
  unfold Wd.at'
  cases h1 : W.has x y with
  | false => rw [clr_out h1]; rfl
  | true =>
    obtain ⟨i1, i2, i3, i4, i5, i6, i7, i8⟩ := idx_in w1 w2 h1
    have := hk x.toNat y.toNat (by omega) (by omega) (by omega)
    rw [if_pos rfl, List.getD_eq_getElem?_getD, i7, this, Int.toNat_of_nonneg i3, Int.toNat_of_nonneg i5]
    rfl
theorem knows_set {W : Wd} {cl : Int} {L : List Int} {yn xn : Nat} (hlen : L.length = W.w.toNat * W.h.toNat) (hx : xn < W.w.toNat) (hy : yn < W.h.toNat) (hk : W.knows cl L yn (xn + 1)) : W.knows cl (L.set (yn * W.w.toNat + xn) (W.clr cl xn yn)) yn xn := by
  intro a b ha hb h
  have e6 : W.w.toNat * (yn + 1) ≤ W.w.toNat * W.h.toNat := Nat.mul_le_mul_left _ (by omega)
  rw [Nat.mul_add, Nat.mul_comm] at e6
  rw [List.getElem?_set]
  by_cases he : a = xn ∧ b = yn
  · obtain ⟨rfl, rfl⟩ := he
    rw [if_pos rfl, if_pos (by omega)]
  · rw [if_neg]
    · exact hk a b ha hb (by omega)
    · intro h5
      by_cases hbb : b = yn
      · subst hbb; exact he ⟨by omega, rfl⟩
      · have : W.w.toNat * (yn + 1) ≤ W.w.toNat * b := Nat.mul_le_mul_left _ (by omega)
        rw [Nat.mul_add, Nat.mul_comm W.w.toNat yn, Nat.mul_comm W.w.toNat b] at this
        omega
def Wd.clrs (W : Wd) (cl : Int) : List Int := (List.range (W.w.toNat * W.h.toNat)).map fun n => W.clr cl ((n % W.w.toNat : Nat) : Int) ((n / W.w.toNat : Nat) : Int)
theorem clrs_len (W : Wd) (cl : Int) : (W.clrs cl).length = W.w.toNat * W.h.toNat := by simp [Wd.clrs]
theorem clrs_at {W : Wd} {cl : Int} {x y : Nat} (hx : x < W.w.toNat) (hy : y < W.h.toNat) : (W.clrs cl)[y * W.w.toNat + x]? = some (W.clr cl x y) := by
  have h1 : y * W.w.toNat + x < W.w.toNat * W.h.toNat := by
    have : W.w.toNat * (y + 1) ≤ W.w.toNat * W.h.toNat := Nat.mul_le_mul_left _ hy
    rw [Nat.mul_add, Nat.mul_comm] at this
    omega
  have h2 : (y * W.w.toNat + x) % W.w.toNat = x := by rw [Nat.mul_comm, Nat.mul_add_mod, Nat.mod_eq_of_lt hx]
  have h3 : (y * W.w.toNat + x) / W.w.toNat = y := by rw [Nat.mul_comm, Nat.mul_add_div (by omega), Nat.div_eq_of_lt hx, Nat.add_zero]
  simp only [Wd.clrs, List.getElem?_map, List.getElem?_range h1, Option.map_some, h2, h3]
theorem knows_all {W : Wd} (w1 : 1 ≤ W.w) {cl : Int} {L : List Int} (hlen : L.length = W.w.toNat * W.h.toNat) (hk : ∀ a b : Nat, a < W.w.toNat → b < W.h.toNat → L[b * W.w.toNat + a]? = some (W.clr cl a b)) : L = W.clrs cl := by
  apply List.ext_getElem?
  intro n
  by_cases hn : n < W.w.toNat * W.h.toNat
  · have h1 : n % W.w.toNat < W.w.toNat := Nat.mod_lt _ (by omega)
    have h2 : n / W.w.toNat < W.h.toNat := Nat.div_lt_of_lt_mul hn
    have h3 : n / W.w.toNat * W.w.toNat + n % W.w.toNat = n := by rw [Nat.mul_comm]; exact Nat.div_add_mod _ _
    have := hk _ _ h1 h2
    have h4 := clrs_at (W := W) (cl := cl) h1 h2
    rw [h3] at this h4
    rw [this, h4]
  · rw [List.getElem?_eq_none (by omega), List.getElem?_eq_none (by rw [clrs_len]; omega)]
theorem clrs_get {W : Wd} (w1 : 1 ≤ W.w ∧ W.w ≤ 128) (w2 : 1 ≤ W.h ∧ W.h ≤ 128) (cl x y : Int) : W.at' (W.clrs cl) x y = W.clr cl x y := by
  unfold Wd.at'
  cases h1 : W.has x y with
  | false => rw [clr_out h1]; rfl
  | true =>
    obtain ⟨i1, i2, i3, i4, i5, i6, i7, i8⟩ := idx_in w1 w2 h1
    have := clrs_at (W := W) (cl := cl) (x := x.toNat) (y := y.toNat) (by omega) (by omega)
    rw [if_pos rfl, List.getD_eq_getElem?_getD, i7, this, Int.toNat_of_nonneg i3, Int.toNat_of_nonneg i5]
    rfl
theorem set_self {L : List Int} {i : Nat} {c : Int} (h : L[i]? = some c) : L.set i c = L := by
  apply List.ext_getElem?
  intro n
  rw [List.getElem?_set]
  split
  · rename_i h1
    subst h1
    rw [h]
    split
    · rfl
    · rename_i h2
      rw [List.getElem?_eq_none (by omega)] at h
      cases h
  · rfl
theorem r_clear_reckon {X : Mem} {k : Nat} {p : WP} {W : Wd} {cl : Int} {lv : SV} {ep : Int} {L : List Int} (hk : hget X.heap k 0 = some (.cells true (fieldC p W cl lv ep))) (ho : Own iF X.heap lv L) (hlen : L.length = W.w.toNat * W.h.toNat) (hkn : k ∉ slFp lv) (hpn : ∀ i ∈ p.fp, i ∉ slFp lv) (hm : ∀ i ∈ slFp lv, X.hb ≤ i) (hO : WorldOwn X.heap p W) (hg : W.Good) (hw : X.Wf) :
    ∃ (n : Int) (H' : Hp), RF tb f_clear_Field_reckon [.ptr (.hp k 0) 0, rect 0 0 W.w W.h] X = some (.int .i64 n, X.hp H') ∧ Own iF H' lv (W.clrs cl) ∧ Keep (slFp lv) X.heap H' ∧ H'.length = X.heap.length := by
  rw [RF_go t_clear_Field_reckon _ _ rfl, push_hp]
  generalize hH : X.heap = H at *
  have hHl : X.hl = H.length := by rw [← hH]; rfl
  have w1 := hO.at_.w1
  have w2 := hO.at_.h1
  simp (maxDischargeDepth := 8) only [go_sem, reduceIte, reduceCtorEq, Nat.reduceEqDiff, Nat.reduceAdd, Nat.reduceMul, Nat.reduceSub, Nat.reduceLeDiff, Nat.reduceLT, Nat.reduceBEq, Int.reduceToNat, Int.reduceEq, Int.reduceLT, Int.reduceLE, Int.reduceAdd, Int.reduceSub, Int.reduceMul, Int.reduceNeg, s_clear_Field_reckon, rect, hw, hH, Int.zero_add, wrap_small (x := W.h) (by omega) (by omega), wrap_small (x := W.h - 1) (by omega) (by omega)]
  rw [KL_keep _ _ _ (by simp (maxDischargeDepth := 8) only [go_sem, reduceIte, reduceCtorEq, Nat.reduceEqDiff, Nat.reduceAdd, Nat.reduceMul, Nat.reduceSub, Nat.reduceLeDiff, Nat.reduceLT, Nat.reduceBEq, Int.reduceToNat, Int.reduceEq, Int.reduceLT, Int.reduceLE, Int.reduceAdd, Int.reduceSub, Int.reduceMul, Int.reduceNeg])]
  simp (maxDischargeDepth := 8) only [go_sem, reduceIte, reduceCtorEq, Nat.reduceEqDiff, Nat.reduceAdd, Nat.reduceMul, Nat.reduceSub, Nat.reduceLeDiff, Nat.reduceLT, Nat.reduceBEq, Int.reduceToNat, Int.reduceEq, Int.reduceLT, Int.reduceLE, Int.reduceAdd, Int.reduceSub, Int.reduceMul, Int.reduceNeg]
  rw [show W.h - 1 = ((W.h.toNat : Nat) : Int) - 1 from by omega]
  refine KL_ind (R := fun z => ∃ (n : Int) (H' : Hp), fin [.t 4] X z = some (.int .i64 n, X.hp H') ∧ Own iF H' lv (W.clrs cl) ∧ Keep (slFp lv) H H' ∧ H'.length = H.length) (α := Nat × Nat × Hp × List Int) (fun q => q.1)
    (fun q => [(0, .ptr (.hp k 0) 0), (3, .ptr (.st X.dep 0) 0), (5, .int .i64 (q.2.1 : Int)), (6, .int .i64 ((q.1 : Int) - 1))])
    (fun q => (X.hp q.2.2.1).fr [.cells true [.int .i64 0, .int .i64 0, .int .i64 W.w, .int .i64 W.h]] none)
    (fun q => q.1 ≤ W.h.toNat ∧ q.2.1 + q.1 * W.w.toNat ≤ W.w.toNat * W.h.toNat ∧ Own iF q.2.2.1 lv q.2.2.2 ∧ q.2.2.2.length = W.w.toNat * W.h.toNat ∧ (∀ a b : Nat, a < W.w.toNat → b < W.h.toNat → q.1 ≤ b → q.2.2.2[b * W.w.toNat + a]? = some (W.clr cl a b)) ∧ Keep (slFp lv) H q.2.2.1 ∧ q.2.2.1.length = H.length) ?_ (W.h.toNat, 0, H, L) ⟨Nat.le_refl _, by dsimp only; rw [Nat.mul_comm]; omega, ho, hlen, fun a b _ hb h => absurd hb (by dsimp only at h; omega), Keep.refl _ _, rfl⟩
  rintro ⟨yn, n, Hk, L⟩ ⟨hy, hn, ow, hln, hkn', kk, hkl⟩ ih
  dsimp only at hy hn ow hln hkn' kk hkl ⊢
  simp (maxDischargeDepth := 8) only [go_sem, reduceIte, reduceCtorEq, Nat.reduceEqDiff, Nat.reduceAdd, Nat.reduceMul, Nat.reduceSub, Nat.reduceLeDiff, Nat.reduceLT, Nat.reduceBEq, Int.reduceToNat, Int.reduceEq, Int.reduceLT, Int.reduceLE, Int.reduceAdd, Int.reduceSub, Int.reduceMul, Int.reduceNeg, hw]
  by_cases hy0 : 0 < yn
  · obtain ⟨yk, rfl⟩ : ∃ i, yn = i + 1 := ⟨yn - 1, by omega⟩
    rw [show ((yk + 1 : Nat) : Int) - 1 = (yk : Int) from by omega]
    simp (maxDischargeDepth := 8) only [go_sem, reduceIte, reduceCtorEq, Nat.reduceEqDiff, Nat.reduceAdd, Nat.reduceMul, Nat.reduceSub, Nat.reduceLeDiff, Nat.reduceLT, Nat.reduceBEq, Int.reduceToNat, Int.reduceEq, Int.reduceLT, Int.reduceLE, Int.reduceAdd, Int.reduceSub, Int.reduceMul, Int.reduceNeg, show decide ((yk : Int) ≥ 0) = true from decide_eq_true (by omega), hw, Int.zero_add, wrap_small (x := W.w) (by omega) (by omega), wrap_small (x := W.w - 1) (by omega) (by omega)]
    rw [KL_keep _ _ _ (by simp (maxDischargeDepth := 8) only [go_sem, reduceIte, reduceCtorEq, Nat.reduceEqDiff, Nat.reduceAdd, Nat.reduceMul, Nat.reduceSub, Nat.reduceLeDiff, Nat.reduceLT, Nat.reduceBEq, Int.reduceToNat, Int.reduceEq, Int.reduceLT, Int.reduceLE, Int.reduceAdd, Int.reduceSub, Int.reduceMul, Int.reduceNeg])]
    simp (maxDischargeDepth := 8) only [go_sem, reduceIte, reduceCtorEq, Nat.reduceEqDiff, Nat.reduceAdd, Nat.reduceMul, Nat.reduceSub, Nat.reduceLeDiff, Nat.reduceLT, Nat.reduceBEq, Int.reduceToNat, Int.reduceEq, Int.reduceLT, Int.reduceLE, Int.reduceAdd, Int.reduceSub, Int.reduceMul, Int.reduceNeg]
    rw [show W.w - 1 = ((W.w.toNat : Nat) : Int) - 1 from by omega]
    have hyw : (yk + 1) * W.w.toNat = yk * W.w.toNat + W.w.toNat := by rw [Nat.add_mul, Nat.one_mul]
    have h48 : W.w.toNat * W.h.toNat ≤ 128 * 128 := Nat.mul_le_mul (by omega) (by omega)
    rw [hyw] at hn
    refine KL_ind (R := fun z => ∃ (n : Int) (H' : Hp), fin [.t 4] X z = some (.int .i64 n, X.hp H') ∧ Own iF H' lv (W.clrs cl) ∧ Keep (slFp lv) H H' ∧ H'.length = H.length) (α := Nat × Nat × Hp × List Int) (fun q => q.1)
      (fun q => [(0, .ptr (.hp k 0) 0), (3, .ptr (.st X.dep 0) 0), (5, .int .i64 (q.2.1 : Int)), (6, .int .i64 (yk : Int)), (7, .int .i64 ((q.1 : Int) - 1))])
      (fun q => (X.hp q.2.2.1).fr [.cells true [.int .i64 0, .int .i64 0, .int .i64 W.w, .int .i64 W.h]] none)
      (fun q => q.1 ≤ W.w.toNat ∧ q.2.1 + yk * W.w.toNat + q.1 ≤ W.w.toNat * W.h.toNat ∧ Own iF q.2.2.1 lv q.2.2.2 ∧ q.2.2.2.length = W.w.toNat * W.h.toNat ∧ W.knows cl q.2.2.2 yk q.1 ∧ Keep (slFp lv) H q.2.2.1 ∧ q.2.2.1.length = H.length) ?_ (W.w.toNat, n, Hk, L) ⟨Nat.le_refl _, by dsimp only; omega, ow, hln, fun a b ha hb h => hkn' a b ha hb (by dsimp only at h; omega), kk, hkl⟩
    clear hn ow hln hkn' kk hkl
    rintro ⟨xn, n, Hk, L⟩ ⟨hx, hn, ow, hln, hkw, kk, hkl⟩ ih'
    dsimp only at hx hn ow hln hkw kk hkl ⊢
    simp (maxDischargeDepth := 8) only [go_sem, reduceIte, reduceCtorEq, Nat.reduceEqDiff, Nat.reduceAdd, Nat.reduceMul, Nat.reduceSub, Nat.reduceLeDiff, Nat.reduceLT, Nat.reduceBEq, Int.reduceToNat, Int.reduceEq, Int.reduceLT, Int.reduceLE, Int.reduceAdd, Int.reduceSub, Int.reduceMul, Int.reduceNeg, hw]
    by_cases hx0 : 0 < xn
    · obtain ⟨xk, rfl⟩ : ∃ i, xn = i + 1 := ⟨xn - 1, by omega⟩
      rw [show ((xk + 1 : Nat) : Int) - 1 = (xk : Int) from by omega]
      have hO' := hO.keep kk hpn
      have hF : FieldAt (Hm Hk) k p W cl lv ep L := ⟨kk.get hk hkn, ow.lies iF_even, hln, w1, w2⟩
      have k1 := knows_at w1 w2 hkw (x := (xk : Int) + 1) (y := yk) (by omega) (by omega)
      have k2 := knows_at w1 w2 hkw (x := (xk : Int)) (y := (yk : Int) + 1) (by omega) (by omega)
      have k3 := knows_at w1 w2 hkw (x := (xk : Int) + 1) (y := (yk : Int) + 1) (by omega) (by omega)
      have hset := knows_set hln (by omega) (by omega) hkw
      have e6 : W.w.toNat * (yk + 1) ≤ W.w.toNat * W.h.toNat := Nat.mul_le_mul_left _ (by omega)
      rw [Nat.mul_add, Nat.mul_comm, Nat.mul_one] at e6
      have e5 : (yk : Int) * W.w = ((yk * W.w.toNat : Nat) : Int) := by rw [Int.natCast_mul, Int.toNat_of_nonneg (show 0 ≤ W.w by omega)]
      have c1 := clr_in W cl ((xk : Int) + 1) yk
      have c2 := clr_in W cl xk ((yk : Int) + 1)
      have c3 := clr_in W cl ((xk : Int) + 1) ((yk : Int) + 1)
      have e1 := mnI_eqF (W.clr cl ((xk : Int) + 1) yk) (W.clr cl xk ((yk : Int) + 1))
      have e2 := mnI_eqF (mnI (W.clr cl ((xk : Int) + 1) yk) (W.clr cl xk ((yk : Int) + 1))) (W.clr cl ((xk : Int) + 1) ((yk : Int) + 1))
      have e3 := mnI_eqF (mnI (mnI (W.clr cl ((xk : Int) + 1) yk) (W.clr cl xk ((yk : Int) + 1))) (W.clr cl ((xk : Int) + 1) ((yk : Int) + 1))) 3
      have hidx : ((yk : Int) * W.w + xk).toNat = yk * W.w.toNat + xk := by omega
      have hlt : yk * W.w.toNat + xk < L.length := by omega
      obtain ⟨c, hel'⟩ : ∃ c, L[yk * W.w.toNat + xk]? = some c := ⟨_, List.getElem?_eq_getElem hlt⟩
      have hel : L[((yk : Int) * W.w + xk).toNat]? = some c := by rw [hidx]; exact hel'
      have hst := clr_step w1 w2 cl (xk : Int) (yk : Int)
      simp (maxDischargeDepth := 8) only [go_sem, reduceIte, reduceCtorEq, Nat.reduceEqDiff, Nat.reduceAdd, Nat.reduceMul, Nat.reduceSub, Nat.reduceLeDiff, Nat.reduceLT, Nat.reduceBEq, Int.reduceToNat, Int.reduceEq, Int.reduceLT, Int.reduceLE, Int.reduceAdd, Int.reduceSub, Int.reduceMul, Int.reduceNeg, show decide ((xk : Int) ≥ 0) = true from decide_eq_true (by omega), hw, r_clear_tile hF hO'.at_ hg]
      cases hs : W.stands cl 1 (xk : Int) (yk : Int) with
      | false =>
        rw [hs] at hst
        have hst : W.clr cl xk yk = 0 := hst
        simp (maxDischargeDepth := 8) only [go_sem, reduceIte, reduceCtorEq, Nat.reduceEqDiff, Nat.reduceAdd, Nat.reduceMul, Nat.reduceSub, Nat.reduceLeDiff, Nat.reduceLT, Nat.reduceBEq, Int.reduceToNat, Int.reduceEq, Int.reduceLT, Int.reduceLE, Int.reduceAdd, Int.reduceSub, Int.reduceMul, Int.reduceNeg, hw, hF.ld, fieldC, wrap_small (x := (yk : Int) * W.w) (by omega) (by omega), wrap_small (x := (yk : Int) * W.w + xk) (by omega) (by omega), LiesD.iaddrI hF.ll (i := (yk : Int) * W.w + xk) (by omega) (by omega), hF.ll.loadI hel]
        by_cases hc : c = (0 : Int)
        · have hsame : L.set (yk * W.w.toNat + xk) (W.clr cl xk yk) = L := by
            rw [hst, ← hc]
            exact set_self hel'
          rw [hsame] at hset
          simp (maxDischargeDepth := 8) only [go_sem, reduceIte, reduceCtorEq, Nat.reduceEqDiff, Nat.reduceAdd, Nat.reduceMul, Nat.reduceSub, Nat.reduceLeDiff, Nat.reduceLT, Nat.reduceBEq, Int.reduceToNat, Int.reduceEq, Int.reduceLT, Int.reduceLE, Int.reduceAdd, Int.reduceSub, Int.reduceMul, Int.reduceNeg, hw, show (c != (0 : Int)) = false from by simpa using hc, wrap_small (x := (xk : Int) - 1) (by omega) (by omega)]
          rw [KL_keep _ _ _ (by simp (maxDischargeDepth := 8) only [go_sem, reduceIte, reduceCtorEq, Nat.reduceEqDiff, Nat.reduceAdd, Nat.reduceMul, Nat.reduceSub, Nat.reduceLeDiff, Nat.reduceLT, Nat.reduceBEq, Int.reduceToNat, Int.reduceEq, Int.reduceLT, Int.reduceLE, Int.reduceAdd, Int.reduceSub, Int.reduceMul, Int.reduceNeg])]
          simp (maxDischargeDepth := 8) only [go_sem, reduceIte, reduceCtorEq, Nat.reduceEqDiff, Nat.reduceAdd, Nat.reduceMul, Nat.reduceSub, Nat.reduceLeDiff, Nat.reduceLT, Nat.reduceBEq, Int.reduceToNat, Int.reduceEq, Int.reduceLT, Int.reduceLE, Int.reduceAdd, Int.reduceSub, Int.reduceMul, Int.reduceNeg]
          exact ih' (xk, n, Hk, L) ⟨by dsimp only; omega, by dsimp only; omega, ow, hln, hset, kk, hkl⟩ (by dsimp only; omega)
        · obtain ⟨H2, hst1, o1, k1', hl1⟩ := storeI ow (i := yk * W.w.toNat + xk) (by omega) X hm (0 : Int)
          rw [← hst] at o1
          simp (maxDischargeDepth := 8) only [go_sem, reduceIte, reduceCtorEq, Nat.reduceEqDiff, Nat.reduceAdd, Nat.reduceMul, Nat.reduceSub, Nat.reduceLeDiff, Nat.reduceLT, Nat.reduceBEq, Int.reduceToNat, Int.reduceEq, Int.reduceLT, Int.reduceLE, Int.reduceAdd, Int.reduceSub, Int.reduceMul, Int.reduceNeg, hw, hF.ld, fieldC, show (c != (0 : Int)) = true from by simpa using hc, wrap_small (x := (yk : Int) * W.w) (by omega) (by omega), wrap_small (x := (yk : Int) * W.w + xk) (by omega) (by omega), LiesD.iaddrI hF.ll (i := (yk : Int) * W.w + xk) (by omega) (by omega), hidx, hst1, wrap_small (x := (xk : Int) - 1) (by omega) (by omega), wrap_succ (show n ≤ 4611686018427387903 by omega)]
          rw [KL_keep _ _ _ (by simp (maxDischargeDepth := 8) only [go_sem, reduceIte, reduceCtorEq, Nat.reduceEqDiff, Nat.reduceAdd, Nat.reduceMul, Nat.reduceSub, Nat.reduceLeDiff, Nat.reduceLT, Nat.reduceBEq, Int.reduceToNat, Int.reduceEq, Int.reduceLT, Int.reduceLE, Int.reduceAdd, Int.reduceSub, Int.reduceMul, Int.reduceNeg])]
          simp (maxDischargeDepth := 8) only [go_sem, reduceIte, reduceCtorEq, Nat.reduceEqDiff, Nat.reduceAdd, Nat.reduceMul, Nat.reduceSub, Nat.reduceLeDiff, Nat.reduceLT, Nat.reduceBEq, Int.reduceToNat, Int.reduceEq, Int.reduceLT, Int.reduceLE, Int.reduceAdd, Int.reduceSub, Int.reduceMul, Int.reduceNeg]
          exact ih' (xk, n + 1, H2, L.set (yk * W.w.toNat + xk) (W.clr cl xk yk)) ⟨by dsimp only; omega, by dsimp only; omega, o1, by dsimp only; rw [List.length_set]; exact hln, hset, kk.trans k1', by dsimp only; omega⟩ (by dsimp only; omega)
      | true =>
        rw [hs, if_pos rfl] at hst
        simp (maxDischargeDepth := 8) only [go_sem, reduceIte, reduceCtorEq, Nat.reduceEqDiff, Nat.reduceAdd, Nat.reduceMul, Nat.reduceSub, Nat.reduceLeDiff, Nat.reduceLT, Nat.reduceBEq, Int.reduceToNat, Int.reduceEq, Int.reduceLT, Int.reduceLE, Int.reduceAdd, Int.reduceSub, Int.reduceMul, Int.reduceNeg, hw, hF.ld, fieldC, r_clear_At hF, wrap_small (x := (xk : Int) + 1) (by omega) (by omega), wrap_small (x := (yk : Int) + 1) (by omega) (by omega), k1, k2, k3, wrap_small (x := (1 + mnI (mnI (mnI (W.clr cl ((xk : Int) + 1) yk) (W.clr cl xk ((yk : Int) + 1))) (W.clr cl ((xk : Int) + 1) ((yk : Int) + 1))) 3)) (by omega) (by omega), wrap_small (x := (yk : Int) * W.w) (by omega) (by omega), wrap_small (x := (yk : Int) * W.w + xk) (by omega) (by omega), LiesD.iaddrI hF.ll (i := (yk : Int) * W.w + xk) (by omega) (by omega), hF.ll.loadI hel]
        by_cases hc : c = (1 + mnI (mnI (mnI (W.clr cl ((xk : Int) + 1) yk) (W.clr cl xk ((yk : Int) + 1))) (W.clr cl ((xk : Int) + 1) ((yk : Int) + 1))) 3)
        · have hsame : L.set (yk * W.w.toNat + xk) (W.clr cl xk yk) = L := by
            rw [hst, ← hc]
            exact set_self hel'
          rw [hsame] at hset
          simp (maxDischargeDepth := 8) only [go_sem, reduceIte, reduceCtorEq, Nat.reduceEqDiff, Nat.reduceAdd, Nat.reduceMul, Nat.reduceSub, Nat.reduceLeDiff, Nat.reduceLT, Nat.reduceBEq, Int.reduceToNat, Int.reduceEq, Int.reduceLT, Int.reduceLE, Int.reduceAdd, Int.reduceSub, Int.reduceMul, Int.reduceNeg, hw, show (c != (1 + mnI (mnI (mnI (W.clr cl ((xk : Int) + 1) yk) (W.clr cl xk ((yk : Int) + 1))) (W.clr cl ((xk : Int) + 1) ((yk : Int) + 1))) 3)) = false from by simpa using hc, wrap_small (x := (xk : Int) - 1) (by omega) (by omega)]
          rw [KL_keep _ _ _ (by simp (maxDischargeDepth := 8) only [go_sem, reduceIte, reduceCtorEq, Nat.reduceEqDiff, Nat.reduceAdd, Nat.reduceMul, Nat.reduceSub, Nat.reduceLeDiff, Nat.reduceLT, Nat.reduceBEq, Int.reduceToNat, Int.reduceEq, Int.reduceLT, Int.reduceLE, Int.reduceAdd, Int.reduceSub, Int.reduceMul, Int.reduceNeg])]
          simp (maxDischargeDepth := 8) only [go_sem, reduceIte, reduceCtorEq, Nat.reduceEqDiff, Nat.reduceAdd, Nat.reduceMul, Nat.reduceSub, Nat.reduceLeDiff, Nat.reduceLT, Nat.reduceBEq, Int.reduceToNat, Int.reduceEq, Int.reduceLT, Int.reduceLE, Int.reduceAdd, Int.reduceSub, Int.reduceMul, Int.reduceNeg]
          exact ih' (xk, n, Hk, L) ⟨by dsimp only; omega, by dsimp only; omega, ow, hln, hset, kk, hkl⟩ (by dsimp only; omega)
        · obtain ⟨H2, hst1, o1, k1', hl1⟩ := storeI ow (i := yk * W.w.toNat + xk) (by omega) X hm (1 + mnI (mnI (mnI (W.clr cl ((xk : Int) + 1) yk) (W.clr cl xk ((yk : Int) + 1))) (W.clr cl ((xk : Int) + 1) ((yk : Int) + 1))) 3)
          rw [← hst] at o1
          simp (maxDischargeDepth := 8) only [go_sem, reduceIte, reduceCtorEq, Nat.reduceEqDiff, Nat.reduceAdd, Nat.reduceMul, Nat.reduceSub, Nat.reduceLeDiff, Nat.reduceLT, Nat.reduceBEq, Int.reduceToNat, Int.reduceEq, Int.reduceLT, Int.reduceLE, Int.reduceAdd, Int.reduceSub, Int.reduceMul, Int.reduceNeg, hw, hF.ld, fieldC, show (c != (1 + mnI (mnI (mnI (W.clr cl ((xk : Int) + 1) yk) (W.clr cl xk ((yk : Int) + 1))) (W.clr cl ((xk : Int) + 1) ((yk : Int) + 1))) 3)) = true from by simpa using hc, wrap_small (x := (yk : Int) * W.w) (by omega) (by omega), wrap_small (x := (yk : Int) * W.w + xk) (by omega) (by omega), LiesD.iaddrI hF.ll (i := (yk : Int) * W.w + xk) (by omega) (by omega), hidx, hst1, wrap_small (x := (xk : Int) - 1) (by omega) (by omega), wrap_succ (show n ≤ 4611686018427387903 by omega)]
          rw [KL_keep _ _ _ (by simp (maxDischargeDepth := 8) only [go_sem, reduceIte, reduceCtorEq, Nat.reduceEqDiff, Nat.reduceAdd, Nat.reduceMul, Nat.reduceSub, Nat.reduceLeDiff, Nat.reduceLT, Nat.reduceBEq, Int.reduceToNat, Int.reduceEq, Int.reduceLT, Int.reduceLE, Int.reduceAdd, Int.reduceSub, Int.reduceMul, Int.reduceNeg])]
          simp (maxDischargeDepth := 8) only [go_sem, reduceIte, reduceCtorEq, Nat.reduceEqDiff, Nat.reduceAdd, Nat.reduceMul, Nat.reduceSub, Nat.reduceLeDiff, Nat.reduceLT, Nat.reduceBEq, Int.reduceToNat, Int.reduceEq, Int.reduceLT, Int.reduceLE, Int.reduceAdd, Int.reduceSub, Int.reduceMul, Int.reduceNeg]
          exact ih' (xk, n + 1, H2, L.set (yk * W.w.toNat + xk) (W.clr cl xk yk)) ⟨by dsimp only; omega, by dsimp only; omega, o1, by dsimp only; rw [List.length_set]; exact hln, hset, kk.trans k1', by dsimp only; omega⟩ (by dsimp only; omega)
    · obtain rfl : xn = 0 := by omega
      simp (maxDischargeDepth := 8) only [go_sem, reduceIte, reduceCtorEq, Nat.reduceEqDiff, Nat.reduceAdd, Nat.reduceMul, Nat.reduceSub, Nat.reduceLeDiff, Nat.reduceLT, Nat.reduceBEq, Int.reduceToNat, Int.reduceEq, Int.reduceLT, Int.reduceLE, Int.reduceAdd, Int.reduceSub, Int.reduceMul, Int.reduceNeg, show decide (((0 : Nat) : Int) - 1 ≥ 0) = false from rfl, show decide ((-1 : Int) ≥ 0) = false from rfl, hw, wrap_small (x := (yk : Int) - 1) (by omega) (by omega)]
      rw [KL_keep _ _ _ (by simp (maxDischargeDepth := 8) only [go_sem, reduceIte, reduceCtorEq, Nat.reduceEqDiff, Nat.reduceAdd, Nat.reduceMul, Nat.reduceSub, Nat.reduceLeDiff, Nat.reduceLT, Nat.reduceBEq, Int.reduceToNat, Int.reduceEq, Int.reduceLT, Int.reduceLE, Int.reduceAdd, Int.reduceSub, Int.reduceMul, Int.reduceNeg])]
      simp (maxDischargeDepth := 8) only [go_sem, reduceIte, reduceCtorEq, Nat.reduceEqDiff, Nat.reduceAdd, Nat.reduceMul, Nat.reduceSub, Nat.reduceLeDiff, Nat.reduceLT, Nat.reduceBEq, Int.reduceToNat, Int.reduceEq, Int.reduceLT, Int.reduceLE, Int.reduceAdd, Int.reduceSub, Int.reduceMul, Int.reduceNeg]
      exact ih (yk, n, Hk, L) ⟨by dsimp only; omega, by dsimp only; omega, ow, hln, fun a b ha hb h => hkw a b ha hb (by dsimp only at h; omega), kk, hkl⟩ (by dsimp only; omega)
  · obtain rfl : yn = 0 := by omega
    simp (maxDischargeDepth := 8) only [go_sem, reduceIte, reduceCtorEq, Nat.reduceEqDiff, Nat.reduceAdd, Nat.reduceMul, Nat.reduceSub, Nat.reduceLeDiff, Nat.reduceLT, Nat.reduceBEq, Int.reduceToNat, Int.reduceEq, Int.reduceLT, Int.reduceLE, Int.reduceAdd, Int.reduceSub, Int.reduceMul, Int.reduceNeg, show decide (((0 : Nat) : Int) - 1 ≥ 0) = false from rfl, show decide ((-1 : Int) ≥ 0) = false from rfl, hw]
    rw [knows_all w1.1 hln (fun a b ha hb => hkn' a b ha hb (Nat.zero_le _))] at ow
    rw [List.take_of_length_le (by omega)]
    exact ⟨_, _, rfl, ow, kk, hkl⟩
theorem reckon_of {X : Mem} {k : Nat} {p : WP} {W : Wd} {cl : Int} {lv : SV} {ep : Int} {L : List Int} {z : Option (SV × Mem)} (hz : RF tb f_clear_Field_reckon [.ptr (.hp k 0) 0, rect 0 0 W.w W.h] X = z) (hk : hget X.heap k 0 = some (.cells true (fieldC p W cl lv ep))) (ho : Own iF X.heap lv L) (hlen : L.length = W.w.toNat * W.h.toNat) (hkn : k ∉ slFp lv) (hpn : ∀ i ∈ p.fp, i ∉ slFp lv) (hm : ∀ i ∈ slFp lv, X.hb ≤ i) (hO : WorldOwn X.heap p W) (hg : W.Good) (hw : X.Wf) :
    ∃ (n : Int) (H' : Hp), z = some (.int .i64 n, X.hp H') ∧ Own iF H' lv (W.clrs cl) ∧ Keep (slFp lv) X.heap H' ∧ H'.length = X.heap.length := by
  rw [← hz]
  exact r_clear_reckon hk ho hlen hkn hpn hm hO hg hw
theorem may_all {W : Wd} (w1 : 1 ≤ W.w ∧ W.w ≤ 128) (w2 : 1 ≤ W.h ∧ W.h ≤ 128) : mayB 0 0 W.w W.h = true := by
  rw [mayB, last_eq (by omega) (by omega), last_eq (by omega) (by omega)]
  simp only [nearC, nearP, sideB, Bool.and_eq_true, decide_eq_true_eq]
  omega
theorem r_clear_New0 (X : Mem) (hw : X.Wf) (cl : Int) : RF tb f_clear_New [.nilp, .int .i64 cl] X = some (.tup [.nilp, .int .i64 1], X) := by
  rw [RF_go t_clear_New _ _ rfl]
  simp (maxDischargeDepth := 8) only [go_sem, reduceIte, reduceCtorEq, Nat.reduceEqDiff, Nat.reduceAdd, Nat.reduceMul, Nat.reduceSub, Nat.reduceLeDiff, Nat.reduceLT, Nat.reduceBEq, Int.reduceToNat, Int.reduceEq, Int.reduceLT, Int.reduceLE, Int.reduceAdd, Int.reduceSub, Int.reduceMul, Int.reduceNeg, s_clear_New, hw, r_grid_World_All0, r_cell_May, show mayB 0 0 0 0 = false from rfl]
theorem r_clear_New_no {m : Mem} {p : WP} {W : Wd} (hW : WorldAt m p W) {cl : Int} (hc : ¬ (0 ≤ cl ∧ cl < 4)) {X : Mem} (hX : HpSub m X) (hw : X.Wf) : RF tb f_clear_New [.ptr (.hp p.k 0) 0, .int .i64 cl] X = some (.tup [.nilp, .int .i64 1], X) := by
  rw [RF_go t_clear_New _ _ rfl]
  simp (maxDischargeDepth := 8) only [go_sem, reduceIte, reduceCtorEq, Nat.reduceEqDiff, Nat.reduceAdd, Nat.reduceMul, Nat.reduceSub, Nat.reduceLeDiff, Nat.reduceLT, Nat.reduceBEq, Int.reduceToNat, Int.reduceEq, Int.reduceLT, Int.reduceLE, Int.reduceAdd, Int.reduceSub, Int.reduceMul, Int.reduceNeg, s_clear_New, hw, hX, r_grid_World_All hW, rect, r_cell_May, may_all hW.w1 hW.h1]
  by_cases h1 : cl < 0
  · simp (maxDischargeDepth := 8) only [go_sem, reduceIte, reduceCtorEq, Nat.reduceEqDiff, Nat.reduceAdd, Nat.reduceMul, Nat.reduceSub, Nat.reduceLeDiff, Nat.reduceLT, Nat.reduceBEq, Int.reduceToNat, Int.reduceEq, Int.reduceLT, Int.reduceLE, Int.reduceAdd, Int.reduceSub, Int.reduceMul, Int.reduceNeg, hw, show decide (cl < 0) = true from decide_eq_true h1]
  · simp (maxDischargeDepth := 8) only [go_sem, reduceIte, reduceCtorEq, Nat.reduceEqDiff, Nat.reduceAdd, Nat.reduceMul, Nat.reduceSub, Nat.reduceLeDiff, Nat.reduceLT, Nat.reduceBEq, Int.reduceToNat, Int.reduceEq, Int.reduceLT, Int.reduceLE, Int.reduceAdd, Int.reduceSub, Int.reduceMul, Int.reduceNeg, hw, show decide (cl < 0) = false from decide_eq_false h1, show decide (cl ≥ 4) = true from decide_eq_true (by omega)]
theorem shut_hap_reopen (Z : Mem) (L : Hp) : (Z.shut.hap L).reopen Z = Z.hap L := id rfl
theorem r_clear_New {X : Mem} {p : WP} {W : Wd} (hO : WorldOwn X.heap p W) (hg : W.Good) (hw : X.Wf) (hhb : X.hb ≤ X.hl) (cl : Int) (hc : 0 ≤ cl ∧ cl < 4) :
    ∃ k lv H', RF tb f_clear_New [.ptr (.hp p.k 0) 0, .int .i64 cl] X = some (.tup [.ptr (.hp k 0) 0, .int .i64 0], X.hp H') ∧ FieldAt (Hm H') k p W cl lv W.dirty.length (W.clrs cl) ∧ Keep [] X.heap H' := by
  rw [RF_go t_clear_New _ _ rfl, push_hp]
  generalize hH : X.heap = H at *
  have hHl : X.hl = H.length := by rw [← hH]; rfl
  have w1 := hO.at_.w1
  have w2 := hO.at_.h1
  have e4 : W.w.toNat * W.h.toNat ≤ 128 * 128 := Nat.mul_le_mul (by omega) (by omega)
  have e5 : W.w * W.h = ((W.w.toNat * W.h.toNat : Nat) : Int) := by rw [Int.natCast_mul, Int.toNat_of_nonneg (show 0 ≤ W.w by omega), Int.toNat_of_nonneg (show 0 ≤ W.h by omega)]
  have c1 : 0 ≤ W.w * W.h := by omega
  have c2 : W.w * W.h < 9223372036854775808 := by omega
  have c3 : 8 * (W.w * W.h) ≤ (two48 : Int) := by simp only [two48]; omega
  obtain ⟨H1, hH1⟩ : ∃ H1, H ++ [(0, SBk.cells true (List.replicate (W.w * W.h).toNat [SV.int IntKind.i64 0]).flatten)] = H1 := ⟨_, rfl⟩
  have own1 : Own iF H1 (.sl (.hp H.length 0) 0 (W.w * W.h).toNat (some (W.w * W.h).toNat) 1) (List.replicate (W.w * W.h).toNat 0) := by rw [← hH1]; exact mkslV_own iF_even H 0 _
  have f1 : ∀ i ∈ slFp (.sl (.hp H.length 0) 0 (W.w * W.h).toNat (some (W.w * W.h).toNat) 1), i = H.length := by simp [slFp]
  have k1 : Keep [] H H1 := by rw [← hH1]; exact Keep.app _ _ _
  have l1 : H1.length = H.length + 1 := by rw [← hH1, List.length_append]; rfl
  simp (maxDischargeDepth := 8) only [go_sem, reduceIte, reduceCtorEq, Nat.reduceEqDiff, Nat.reduceAdd, Nat.reduceMul, Nat.reduceSub, Nat.reduceLeDiff, Nat.reduceLT, Nat.reduceBEq, Int.reduceToNat, Int.reduceEq, Int.reduceLT, Int.reduceLE, Int.reduceAdd, Int.reduceSub, Int.reduceMul, Int.reduceNeg, s_clear_New, shut_hap_reopen, Int.le_refl, hH1, c1, c2, c3, hw, hH, r_grid_World_All hO.at_, rect, r_cell_May, may_all w1 w2, show decide (cl < 0) = false from decide_eq_false (by omega), show decide (cl ≥ 4) = false from decide_eq_false (by omega), r_grid_World_Epoch hO.at_, wrap_small (x := W.w * W.h) (by omega) (by omega)]
  have s1 := own1.isSl iF_even
  generalize SV.sl (.hp H.length 0) 0 (W.w * W.h).toNat (some (W.w * W.h).toNat) 1 = lv at *
  obtain ⟨H2, hH2⟩ : ∃ H2, H1 ++ [(0, SBk.cells true [.ptr (.hp p.k 0) 0, .int .i64 cl, .int .i64 0, .int .i64 0, .int .i64 W.w, .int .i64 W.h, lv, .int .i64 (W.dirty.length : Int)])] = H2 := ⟨_, rfl⟩
  have k2 : Keep [] H1 H2 := by rw [← hH2]; exact Keep.app _ _ _
  have l2 : H2.length = H1.length + 1 := by rw [← hH2, List.length_append]; rfl
  have g2 : hget H2 H1.length 0 = some (.cells true (fieldC p W cl lv W.dirty.length)) := by rw [← hH2]; exact hget_new0 0 _
  rw [hH2]
  generalize hz : RF tb f_clear_Field_reckon _ _ = z
  obtain ⟨n, H3, rfl, o3, k3, l3⟩ := reckon_of hz g2 (own1.keep k2 (by simp)) (by rw [List.length_replicate, e5]; rfl) (fun h => by have := f1 _ h; omega) (fun i hi h => by have := f1 _ h; have := hO.at_.lt i hi; omega) (fun i hi => by have := f1 i hi; show X.hb ≤ i; omega) ((hO.keep k1 (by simp)).keep k2 (by simp)) hg (by simp (maxDischargeDepth := 8) only [go_sem, reduceIte, reduceCtorEq, Nat.reduceEqDiff, Nat.reduceAdd, Nat.reduceMul, Nat.reduceSub, Nat.reduceLeDiff, Nat.reduceLT, Nat.reduceBEq, Int.reduceToNat, Int.reduceEq, Int.reduceLT, Int.reduceLE, Int.reduceAdd, Int.reduceSub, Int.reduceMul, Int.reduceNeg, hw])
  change Keep (slFp lv) H2 H3 at k3
  change H3.length = H2.length at l3
  simp (maxDischargeDepth := 8) only [go_sem, reduceIte, reduceCtorEq, Nat.reduceEqDiff, Nat.reduceAdd, Nat.reduceMul, Nat.reduceSub, Nat.reduceLeDiff, Nat.reduceLT, Nat.reduceBEq, Int.reduceToNat, Int.reduceEq, Int.reduceLT, Int.reduceLE, Int.reduceAdd, Int.reduceSub, Int.reduceMul, Int.reduceNeg, hw]
  rw [if_neg (by omega)]
  refine ⟨H1.length, lv, H3, rfl, ⟨k3.get g2 (fun h => by have := f1 _ h; omega), o3.lies iF_even, clrs_len W cl, w1, w2⟩, (k1.trans k2).trans' k3 (fun n hn hl => by have := f1 n hn; omega)⟩
theorem new_of {X : Mem} {p : WP} {W : Wd} {cl : Int} {z : Option (SV × Mem)} (hz : RF tb f_clear_New [.ptr (.hp p.k 0) 0, .int .i64 cl] X = z) (hO : WorldOwn X.heap p W) (hg : W.Good) (hw : X.Wf) (hhb : X.hb ≤ X.hl) (hc : 0 ≤ cl ∧ cl < 4) :
    ∃ k lv H', z = some (.tup [.ptr (.hp k 0) 0, .int .i64 0], X.hp H') ∧ FieldAt (Hm H') k p W cl lv W.dirty.length (W.clrs cl) ∧ Keep [] X.heap H' := by
  rw [← hz]
  exact r_clear_New hO hg hw hhb cl hc
theorem v33a : (Wd.plain 3 3).clr 0 0 0 = 3 := by decide +kernel
theorem v33b : (Wd.plain 3 3).clr 0 2 2 = 1 := by decide +kernel
theorem r_law07_awake (X : Mem) (hw : X.Wf) (hhb : X.hb ≤ X.hl) : ∃ H' u, RF tb f_law07_awake [] X = some (.bool true, (X.hp H').es (escMin X.esc u)) ∧ Keep [] X.heap H' := by
  rw [RF_go t_law07_awake _ _ rfl, push_hp]
  generalize hH : X.heap = H
  have hHl : X.hl = H.length := by rw [← hH]; rfl
  obtain ⟨H1, hH1⟩ : ∃ H1, H ++ [(0, SBk.cells true (List.replicate 9 [SV.int IntKind.u8 0]).flatten)] = H1 := ⟨_, rfl⟩
  have own : Own byteF H1 (.sl (.hp H.length 0) 0 9 (some 9) 1) (List.replicate 9 0) := by rw [← hH1]; exact mkslV_own byteF_even H 0 9
  have k1 : Keep [] H H1 := by rw [← hH1]; exact Keep.app _ _ _
  have hn := r_grid_New (X := (X.hp H1).fr [] none) (bl := []) (own.lies byteF_even) (LiesD.nil bldF _) (by decide) (fr_wf (hp_wf hw) _ _) (by show X.hb ≤ H1.length; have := k1.1; omega) 3 3
  rw [plain33] at hn
  obtain ⟨H2, u, p, h1, hO, k2, hF⟩ := hn
  change Keep [] H1 H2 at k2
  have hg := plain_good 3 3
  simp (maxDischargeDepth := 8) only [go_sem, reduceIte, reduceCtorEq, Nat.reduceEqDiff, Nat.reduceAdd, Nat.reduceMul, Nat.reduceSub, Nat.reduceLeDiff, Nat.reduceLT, Nat.reduceBEq, Int.reduceToNat, Int.reduceEq, Int.reduceLT, Int.reduceLE, Int.reduceAdd, Int.reduceSub, Int.reduceMul, Int.reduceNeg, s_law07_awake, hw, hH, show (9 : Int) ≤ (two48 : Int) from by decide, hH1, h1]
  generalize hz : RF tb f_clear_New _ _ = z
  obtain ⟨k, lv, H3, rfl, hF, k3⟩ := new_of hz hO hg (by simp (maxDischargeDepth := 8) only [go_sem, reduceIte, reduceCtorEq, Nat.reduceEqDiff, Nat.reduceAdd, Nat.reduceMul, Nat.reduceSub, Nat.reduceLeDiff, Nat.reduceLT, Nat.reduceBEq, Int.reduceToNat, Int.reduceEq, Int.reduceLT, Int.reduceLE, Int.reduceAdd, Int.reduceSub, Int.reduceMul, Int.reduceNeg, hw]) (by show X.hb ≤ H2.length; have := k1.1; have := k2.1; omega) (by decide)
  change Keep [] H2 H3 at k3
  simp (maxDischargeDepth := 8) only [go_sem, reduceIte, reduceCtorEq, Nat.reduceEqDiff, Nat.reduceAdd, Nat.reduceMul, Nat.reduceSub, Nat.reduceLeDiff, Nat.reduceLT, Nat.reduceBEq, Int.reduceToNat, Int.reduceEq, Int.reduceLT, Int.reduceLE, Int.reduceAdd, Int.reduceSub, Int.reduceMul, Int.reduceNeg, hw, r_clear_At hF, clrs_get (W := Wd.plain 3 3) (by decide) (by decide), v33a, v33b]
  exact ⟨_, _, rfl, by rw [← hH] at k1 ⊢; exact (k1.trans (k2.trans k3)).back0⟩
theorem aw07 {X : Mem} {z : Option (SV × Mem)} (hz : RF tb f_law07_awake [] X = z) (hw : X.Wf) (hhb : X.hb ≤ X.hl) : ∃ H' u, z = some (.bool true, (X.hp H').es (escMin X.esc u)) ∧ Keep [] X.heap H' := by
  rw [← hz]
  exact r_law07_awake X hw hhb
theorem both_ofV {X : Mem} {tv bv : SV} {W : Wd} (hd : W.dirty = []) {z : Option (SV × Mem)} (hz : RF tb f_law06_Both [.agg [.int .i64 W.w, .int .i64 W.h, tv, bv]] X = z) (hm : MapIn X tv bv W.tiles W.bl) (hw : X.Wf) (hhb : X.hb ≤ X.hl) :
    (∃ H' u, z = some (.tup [.nilp, .nilp, .bool false], (X.hp H').es (escMin X.esc u)) ∧ Keep [] X.heap H') ∨
    (∃ H' u p q, z = some (.tup [.ptr (.hp p.k 0) 0, .ptr (.hp q.k 0) 0, .bool true], (X.hp H').es (escMin X.esc u)) ∧
    WorldOwn H' p W ∧ RefOwn H' q W W.bl ∧ W.Good ∧ Keep [] X.heap H' ∧ (∀ i ∈ p.fp, X.heap.length ≤ i ∧ i ∉ q.fp) ∧ (∀ i ∈ q.fp, X.heap.length ≤ i)) := by
  obtain ⟨w, hh, tiles, bl, dirty⟩ := W
  simp only at hd
  subst hd
  exact both_of hz hm hw hhb
theorem cnt_app (size : Int) : ∀ l k : List Int, cntGo size (l ++ k) = cntGo size l + cntGo size k
  | [], k => by simp [cntGo]
  | a :: l, k => by simp only [List.cons_append, cntGo, cnt_app size l k]; omega
theorem clr_left {W : Wd} (w1 : 1 ≤ W.w ∧ W.w ≤ 128) (w2 : 1 ≤ W.h ∧ W.h ≤ 128) (cl x y : Int) : W.clr cl (x - 1) y ≤ W.clr cl x y + 1 := by
  have := clr_step w1 w2 cl (x - 1) y
  rw [show x - 1 + 1 = x by omega] at this
  have e1 := mnI_eqF (W.clr cl x y) (W.clr cl (x - 1) (y + 1))
  have e2 := mnI_eqF (mnI (W.clr cl x y) (W.clr cl (x - 1) (y + 1))) (W.clr cl x (y + 1))
  have e3 := mnI_eqF (mnI (mnI (W.clr cl x y) (W.clr cl (x - 1) (y + 1))) (W.clr cl x (y + 1))) 3
  have e4 := clr_in W cl x y
  rw [this]
  split <;> omega
theorem clr_up {W : Wd} (w1 : 1 ≤ W.w ∧ W.w ≤ 128) (w2 : 1 ≤ W.h ∧ W.h ≤ 128) (cl x y : Int) : W.clr cl x (y - 1) ≤ W.clr cl x y + 1 := by
  have := clr_step w1 w2 cl x (y - 1)
  rw [show y - 1 + 1 = y by omega] at this
  have e1 := mnI_eqF (W.clr cl (x + 1) (y - 1)) (W.clr cl x y)
  have e2 := mnI_eqF (mnI (W.clr cl (x + 1) (y - 1)) (W.clr cl x y)) (W.clr cl (x + 1) y)
  have e3 := mnI_eqF (mnI (mnI (W.clr cl (x + 1) (y - 1)) (W.clr cl x y)) (W.clr cl (x + 1) y)) 3
  have e4 := clr_in W cl x y
  rw [this]
  split <;> omega
theorem clrs_take {W : Wd} {cl size : Int} {n : Nat} (hw1 : 1 ≤ W.w) (h : n < W.w.toNat * W.h.toNat) : cntGo size ((W.clrs cl).take (n + 1)) = cntGo size ((W.clrs cl).take n) + if size ≤ W.clr cl ((n % W.w.toNat : Nat) : Int) ((n / W.w.toNat : Nat) : Int) then 1 else 0 := by
  have h1 : n % W.w.toNat < W.w.toNat := Nat.mod_lt _ (by omega)
  have h2 : n / W.w.toNat < W.h.toNat := Nat.div_lt_of_lt_mul h
  have h3 : n / W.w.toNat * W.w.toNat + n % W.w.toNat = n := by rw [Nat.mul_comm]; exact Nat.div_add_mod _ _
  have h4 := clrs_at (W := W) (cl := cl) h1 h2
  rw [h3] at h4
  rw [List.take_add_one, h4, cnt_app]
  simp [cntGo]
theorem r_law07_ClearCounts {X : Mem} {tv bv : SV} {W : Wd} (hd : W.dirty = []) (hm : MapIn X tv bv W.tiles W.bl) (hw : X.Wf) (hhb : X.hb ≤ X.hl) (cl size : Int) : ∃ m', RF tb f_law07_ClearCounts [.agg [.int .i64 W.w, .int .i64 W.h, tv, bv], .int .i64 cl, .int .i64 size] X = some (.bool true, m') := by
  rw [RF_go t_law07_ClearCounts _ _ rfl, push_hp]
  simp (maxDischargeDepth := 8) only [go_sem, reduceIte, reduceCtorEq, Nat.reduceEqDiff, Nat.reduceAdd, Nat.reduceMul, Nat.reduceSub, Nat.reduceLeDiff, Nat.reduceLT, Nat.reduceBEq, Int.reduceToNat, Int.reduceEq, Int.reduceLT, Int.reduceLE, Int.reduceAdd, Int.reduceSub, Int.reduceMul, Int.reduceNeg, s_law07_ClearCounts, hw, hm.t.cell, hm.b.cell]
  generalize hz : RF tb f_law06_Both _ _ = z
  rcases both_ofV hd hz ⟨hm.t, hm.g, hm.b, hm.n⟩ (by simp (maxDischargeDepth := 8) only [go_sem, reduceIte, reduceCtorEq, Nat.reduceEqDiff, Nat.reduceAdd, Nat.reduceMul, Nat.reduceSub, Nat.reduceLeDiff, Nat.reduceLT, Nat.reduceBEq, Int.reduceToNat, Int.reduceEq, Int.reduceLT, Int.reduceLE, Int.reduceAdd, Int.reduceSub, Int.reduceMul, Int.reduceNeg, hw]) hhb with ⟨H', u, rfl, k⟩ | ⟨H', u, p, q, rfl, hO, hR, hg, k, -, -⟩
  · have hle : X.hb ≤ H'.length := by have := k.1; exact Nat.le_trans hhb this
    simp (maxDischargeDepth := 8) only [go_sem, reduceIte, reduceCtorEq, Nat.reduceEqDiff, Nat.reduceAdd, Nat.reduceMul, Nat.reduceSub, Nat.reduceLeDiff, Nat.reduceLT, Nat.reduceBEq, Int.reduceToNat, Int.reduceEq, Int.reduceLT, Int.reduceLE, Int.reduceAdd, Int.reduceSub, Int.reduceMul, Int.reduceNeg, hw, r_clear_New0]
    generalize hz : RF tb f_law07_awake _ _ = z
    obtain ⟨H', u, rfl, -⟩ := aw07 hz (by simp (maxDischargeDepth := 8) only [go_sem, reduceIte, reduceCtorEq, Nat.reduceEqDiff, Nat.reduceAdd, Nat.reduceMul, Nat.reduceSub, Nat.reduceLeDiff, Nat.reduceLT, Nat.reduceBEq, Int.reduceToNat, Int.reduceEq, Int.reduceLT, Int.reduceLE, Int.reduceAdd, Int.reduceSub, Int.reduceMul, Int.reduceNeg, hw]) hle
    simp (maxDischargeDepth := 8) only [go_sem, reduceIte, reduceCtorEq, Nat.reduceEqDiff, Nat.reduceAdd, Nat.reduceMul, Nat.reduceSub, Nat.reduceLeDiff, Nat.reduceLT, Nat.reduceBEq, Int.reduceToNat, Int.reduceEq, Int.reduceLT, Int.reduceLE, Int.reduceAdd, Int.reduceSub, Int.reduceMul, Int.reduceNeg, hw]
    exact ⟨_, rfl⟩
  · have hle : X.hb ≤ H'.length := by have := k.1; exact Nat.le_trans hhb this
    by_cases hc : 0 ≤ cl ∧ cl < 4
    · simp (maxDischargeDepth := 8) only [go_sem, reduceIte, reduceCtorEq, Nat.reduceEqDiff, Nat.reduceAdd, Nat.reduceMul, Nat.reduceSub, Nat.reduceLeDiff, Nat.reduceLT, Nat.reduceBEq, Int.reduceToNat, Int.reduceEq, Int.reduceLT, Int.reduceLE, Int.reduceAdd, Int.reduceSub, Int.reduceMul, Int.reduceNeg, hw]
      generalize hz : RF tb f_clear_New _ _ = z
      obtain ⟨k2, lv, H3, rfl, hF, k3⟩ := new_of hz hO hg (by simp (maxDischargeDepth := 8) only [go_sem, reduceIte, reduceCtorEq, Nat.reduceEqDiff, Nat.reduceAdd, Nat.reduceMul, Nat.reduceSub, Nat.reduceLeDiff, Nat.reduceLT, Nat.reduceBEq, Int.reduceToNat, Int.reduceEq, Int.reduceLT, Int.reduceLE, Int.reduceAdd, Int.reduceSub, Int.reduceMul, Int.reduceNeg, hw]) hle hc
      change Keep [] H' H3 at k3
      have hle3 : X.hb ≤ H3.length := by have := k3.1; omega
      have hR3 := (hR.keep k3 (by simp)).at_
      have w1 := hF.w1
      have w2 := hF.h1
      simp (maxDischargeDepth := 8) only [go_sem, reduceIte, reduceCtorEq, Nat.reduceEqDiff, Nat.reduceAdd, Nat.reduceMul, Nat.reduceSub, Nat.reduceLeDiff, Nat.reduceLT, Nat.reduceBEq, Int.reduceToNat, Int.reduceEq, Int.reduceLT, Int.reduceLE, Int.reduceAdd, Int.reduceSub, Int.reduceMul, Int.reduceNeg, hw, show ((0 : Int) != 0) = false from rfl, r_ref04_All hR3, rect]
      rw [KL_keep _ _ _ (by simp (maxDischargeDepth := 8) only [go_sem, reduceIte, reduceCtorEq, Nat.reduceEqDiff, Nat.reduceAdd, Nat.reduceMul, Nat.reduceSub, Nat.reduceLeDiff, Nat.reduceLT, Nat.reduceBEq, Int.reduceToNat, Int.reduceEq, Int.reduceLT, Int.reduceLE, Int.reduceAdd, Int.reduceSub, Int.reduceMul, Int.reduceNeg])]
      simp (maxDischargeDepth := 8) only [go_sem, reduceIte, reduceCtorEq, Nat.reduceEqDiff, Nat.reduceAdd, Nat.reduceMul, Nat.reduceSub, Nat.reduceLeDiff, Nat.reduceLT, Nat.reduceBEq, Int.reduceToNat, Int.reduceEq, Int.reduceLT, Int.reduceLE, Int.reduceAdd, Int.reduceSub, Int.reduceMul, Int.reduceNeg]
      have h48 : W.w.toNat * W.h.toNat ≤ 128 * 128 := Nat.mul_le_mul (by omega) (by omega)
      have e5 : W.w * W.h = ((W.w.toNat * W.h.toNat : Nat) : Int) := by rw [Int.natCast_mul, Int.toNat_of_nonneg (show 0 ≤ W.w by omega), Int.toNat_of_nonneg (show 0 ≤ W.h by omega)]
      refine KL_ind (R := fun z => ∃ m', fin [.t 6] X z = some (.bool true, m')) (α := Nat) (fun n => W.w.toNat * W.h.toNat - n)
        (fun n => [(1, .int .i64 cl), (2, .int .i64 size), (8, .ptr (.hp q.k 0) 0), (10, .ptr (.hp k2 0) 0), (12, .ptr (.st X.dep 1) 0), (13, .int .i64 (cntGo size ((W.clrs cl).take n) : Nat)), (14, .int .i64 (n : Int))])
        (fun n => (X.hp H3).fr [.cells true [.int .i64 W.w, .int .i64 W.h, tv, bv], .cells true [.int .i64 0, .int .i64 0, .int .i64 W.w, .int .i64 W.h]] u)
        (fun n => n ≤ W.w.toNat * W.h.toNat) ?_ 0 (Nat.zero_le _)
      intro n hn ih
      have hcl : cntGo size ((W.clrs cl).take n) ≤ n := by
        have := cnt_le size ((W.clrs cl).take n)
        rw [List.length_take] at this
        omega
      simp (maxDischargeDepth := 8) only [go_sem, reduceIte, reduceCtorEq, Nat.reduceEqDiff, Nat.reduceAdd, Nat.reduceMul, Nat.reduceSub, Nat.reduceLeDiff, Nat.reduceLT, Nat.reduceBEq, Int.reduceToNat, Int.reduceEq, Int.reduceLT, Int.reduceLE, Int.reduceAdd, Int.reduceSub, Int.reduceMul, Int.reduceNeg, hw, wrap_small (x := W.w * W.h) (by omega) (by omega)]
      by_cases hlt : n < W.w.toNat * W.h.toNat
      · have hww : W.w = ((W.w.toNat : Nat) : Int) := (Int.toNat_of_nonneg (by omega)).symm
        have q1 : Int.tmod (n : Int) W.w = ((n % W.w.toNat : Nat) : Int) := by rw [hww]; rfl
        have q2 : Int.tdiv (n : Int) W.w = ((n / W.w.toNat : Nat) : Int) := by rw [hww]; rfl
        have l2 : n % W.w.toNat < W.w.toNat := Nat.mod_lt _ (by omega)
        have l3 : n / W.w.toNat < W.h.toNat := Nat.div_lt_of_lt_mul hlt
        have hnz : ¬ W.w = 0 := by omega
        have htk := clrs_take (cl := cl) (size := size) w1.1 hlt
        have m1 := fun x y : Int => clrs_get w1 w2 cl x y
        generalize n % W.w.toNat = cx at *
        generalize n / W.w.toNat = cy at *
        have wcy : IntKind.wrap .i64 (cy : Int) = cy := wrap_small (by omega) (by omega)
        simp (maxDischargeDepth := 8) only [go_sem, reduceIte, reduceCtorEq, Nat.reduceEqDiff, Nat.reduceAdd, Nat.reduceMul, Nat.reduceSub, Nat.reduceLeDiff, Nat.reduceLT, Nat.reduceBEq, Int.reduceToNat, Int.reduceEq, Int.reduceLT, Int.reduceLE, Int.reduceAdd, Int.reduceSub, Int.reduceMul, Int.reduceNeg, show decide ((n : Int) < W.w * W.h) = true from decide_eq_true (by omega), hw, q1, q2, hnz, wcy, r_ref06_Clear hR3 (fun _ _ => rfl) hg]
        have c0 := clr_in W cl cx cy
        have g1 : decide (W.clr cl ((cx : Int) - 1) cy > W.clr cl cx cy + 1) = false := decide_eq_false (by have := clr_left w1 w2 cl cx cy; omega)
        have g2 : decide (W.clr cl cx ((cy : Int) - 1) > W.clr cl cx cy + 1) = false := decide_eq_false (by have := clr_up w1 w2 cl cx cy; omega)
        have h9 := ih (n + 1) (by omega) (by omega)
        by_cases hs : size ≤ W.clr cl cx cy
        · rw [if_pos hs] at htk
          rw [htk] at h9
          simp (maxDischargeDepth := 8) only [go_sem, reduceIte, reduceCtorEq, Nat.reduceEqDiff, Nat.reduceAdd, Nat.reduceMul, Nat.reduceSub, Nat.reduceLeDiff, Nat.reduceLT, Nat.reduceBEq, Int.reduceToNat, Int.reduceEq, Int.reduceLT, Int.reduceLE, Int.reduceAdd, Int.reduceSub, Int.reduceMul, Int.reduceNeg, show decide (W.clr cl cx cy ≥ size) = true from decide_eq_true hs, hw, wrap_succ (show cntGo size ((W.clrs cl).take n) ≤ 4611686018427387903 by omega)]
          by_cases p1 : 0 < cx
          · by_cases p2 : 0 < cy
            · simp (maxDischargeDepth := 8) only [go_sem, reduceIte, reduceCtorEq, Nat.reduceEqDiff, Nat.reduceAdd, Nat.reduceMul, Nat.reduceSub, Nat.reduceLeDiff, Nat.reduceLT, Nat.reduceBEq, Int.reduceToNat, Int.reduceEq, Int.reduceLT, Int.reduceLE, Int.reduceAdd, Int.reduceSub, Int.reduceMul, Int.reduceNeg, hw, r_clear_At hF, m1, wrap_small (x := (cx : Int) - 1) (by omega) (by omega), wrap_small (x := (cy : Int) - 1) (by omega) (by omega), wrap_small (x := W.clr cl cx cy + 1) (by omega) (by omega), g1, g2, wrap_succ (show n ≤ 4611686018427387903 by omega), wrap_succ (show cntGo size ((W.clrs cl).take n) ≤ 4611686018427387903 by omega), show decide ((cx : Int) > 0) = true from decide_eq_true (by omega), show decide ((cy : Int) > 0) = true from decide_eq_true (by omega)]
              rw [KL_keep _ _ _ (by simp (maxDischargeDepth := 8) only [go_sem, reduceIte, reduceCtorEq, Nat.reduceEqDiff, Nat.reduceAdd, Nat.reduceMul, Nat.reduceSub, Nat.reduceLeDiff, Nat.reduceLT, Nat.reduceBEq, Int.reduceToNat, Int.reduceEq, Int.reduceLT, Int.reduceLE, Int.reduceAdd, Int.reduceSub, Int.reduceMul, Int.reduceNeg])]
              simp (maxDischargeDepth := 8) only [go_sem, reduceIte, reduceCtorEq, Nat.reduceEqDiff, Nat.reduceAdd, Nat.reduceMul, Nat.reduceSub, Nat.reduceLeDiff, Nat.reduceLT, Nat.reduceBEq, Int.reduceToNat, Int.reduceEq, Int.reduceLT, Int.reduceLE, Int.reduceAdd, Int.reduceSub, Int.reduceMul, Int.reduceNeg]
              exact h9
            · simp (maxDischargeDepth := 8) only [go_sem, reduceIte, reduceCtorEq, Nat.reduceEqDiff, Nat.reduceAdd, Nat.reduceMul, Nat.reduceSub, Nat.reduceLeDiff, Nat.reduceLT, Nat.reduceBEq, Int.reduceToNat, Int.reduceEq, Int.reduceLT, Int.reduceLE, Int.reduceAdd, Int.reduceSub, Int.reduceMul, Int.reduceNeg, hw, r_clear_At hF, m1, wrap_small (x := (cx : Int) - 1) (by omega) (by omega), wrap_small (x := (cy : Int) - 1) (by omega) (by omega), wrap_small (x := W.clr cl cx cy + 1) (by omega) (by omega), g1, g2, wrap_succ (show n ≤ 4611686018427387903 by omega), wrap_succ (show cntGo size ((W.clrs cl).take n) ≤ 4611686018427387903 by omega), show decide ((cx : Int) > 0) = true from decide_eq_true (by omega), show decide ((cy : Int) > 0) = false from decide_eq_false (by omega)]
              rw [KL_keep _ _ _ (by simp (maxDischargeDepth := 8) only [go_sem, reduceIte, reduceCtorEq, Nat.reduceEqDiff, Nat.reduceAdd, Nat.reduceMul, Nat.reduceSub, Nat.reduceLeDiff, Nat.reduceLT, Nat.reduceBEq, Int.reduceToNat, Int.reduceEq, Int.reduceLT, Int.reduceLE, Int.reduceAdd, Int.reduceSub, Int.reduceMul, Int.reduceNeg])]
              simp (maxDischargeDepth := 8) only [go_sem, reduceIte, reduceCtorEq, Nat.reduceEqDiff, Nat.reduceAdd, Nat.reduceMul, Nat.reduceSub, Nat.reduceLeDiff, Nat.reduceLT, Nat.reduceBEq, Int.reduceToNat, Int.reduceEq, Int.reduceLT, Int.reduceLE, Int.reduceAdd, Int.reduceSub, Int.reduceMul, Int.reduceNeg]
              exact h9
          · by_cases p2 : 0 < cy
            · simp (maxDischargeDepth := 8) only [go_sem, reduceIte, reduceCtorEq, Nat.reduceEqDiff, Nat.reduceAdd, Nat.reduceMul, Nat.reduceSub, Nat.reduceLeDiff, Nat.reduceLT, Nat.reduceBEq, Int.reduceToNat, Int.reduceEq, Int.reduceLT, Int.reduceLE, Int.reduceAdd, Int.reduceSub, Int.reduceMul, Int.reduceNeg, hw, r_clear_At hF, m1, wrap_small (x := (cx : Int) - 1) (by omega) (by omega), wrap_small (x := (cy : Int) - 1) (by omega) (by omega), wrap_small (x := W.clr cl cx cy + 1) (by omega) (by omega), g1, g2, wrap_succ (show n ≤ 4611686018427387903 by omega), wrap_succ (show cntGo size ((W.clrs cl).take n) ≤ 4611686018427387903 by omega), show decide ((cx : Int) > 0) = false from decide_eq_false (by omega), show decide ((cy : Int) > 0) = true from decide_eq_true (by omega)]
              rw [KL_keep _ _ _ (by simp (maxDischargeDepth := 8) only [go_sem, reduceIte, reduceCtorEq, Nat.reduceEqDiff, Nat.reduceAdd, Nat.reduceMul, Nat.reduceSub, Nat.reduceLeDiff, Nat.reduceLT, Nat.reduceBEq, Int.reduceToNat, Int.reduceEq, Int.reduceLT, Int.reduceLE, Int.reduceAdd, Int.reduceSub, Int.reduceMul, Int.reduceNeg])]
              simp (maxDischargeDepth := 8) only [go_sem, reduceIte, reduceCtorEq, Nat.reduceEqDiff, Nat.reduceAdd, Nat.reduceMul, Nat.reduceSub, Nat.reduceLeDiff, Nat.reduceLT, Nat.reduceBEq, Int.reduceToNat, Int.reduceEq, Int.reduceLT, Int.reduceLE, Int.reduceAdd, Int.reduceSub, Int.reduceMul, Int.reduceNeg]
              exact h9
            · simp (maxDischargeDepth := 8) only [go_sem, reduceIte, reduceCtorEq, Nat.reduceEqDiff, Nat.reduceAdd, Nat.reduceMul, Nat.reduceSub, Nat.reduceLeDiff, Nat.reduceLT, Nat.reduceBEq, Int.reduceToNat, Int.reduceEq, Int.reduceLT, Int.reduceLE, Int.reduceAdd, Int.reduceSub, Int.reduceMul, Int.reduceNeg, hw, r_clear_At hF, m1, wrap_small (x := (cx : Int) - 1) (by omega) (by omega), wrap_small (x := (cy : Int) - 1) (by omega) (by omega), wrap_small (x := W.clr cl cx cy + 1) (by omega) (by omega), g1, g2, wrap_succ (show n ≤ 4611686018427387903 by omega), wrap_succ (show cntGo size ((W.clrs cl).take n) ≤ 4611686018427387903 by omega), show decide ((cx : Int) > 0) = false from decide_eq_false (by omega), show decide ((cy : Int) > 0) = false from decide_eq_false (by omega)]
              rw [KL_keep _ _ _ (by simp (maxDischargeDepth := 8) only [go_sem, reduceIte, reduceCtorEq, Nat.reduceEqDiff, Nat.reduceAdd, Nat.reduceMul, Nat.reduceSub, Nat.reduceLeDiff, Nat.reduceLT, Nat.reduceBEq, Int.reduceToNat, Int.reduceEq, Int.reduceLT, Int.reduceLE, Int.reduceAdd, Int.reduceSub, Int.reduceMul, Int.reduceNeg])]
              simp (maxDischargeDepth := 8) only [go_sem, reduceIte, reduceCtorEq, Nat.reduceEqDiff, Nat.reduceAdd, Nat.reduceMul, Nat.reduceSub, Nat.reduceLeDiff, Nat.reduceLT, Nat.reduceBEq, Int.reduceToNat, Int.reduceEq, Int.reduceLT, Int.reduceLE, Int.reduceAdd, Int.reduceSub, Int.reduceMul, Int.reduceNeg]
              exact h9
        · rw [if_neg hs, Nat.add_zero] at htk
          rw [htk] at h9
          simp (maxDischargeDepth := 8) only [go_sem, reduceIte, reduceCtorEq, Nat.reduceEqDiff, Nat.reduceAdd, Nat.reduceMul, Nat.reduceSub, Nat.reduceLeDiff, Nat.reduceLT, Nat.reduceBEq, Int.reduceToNat, Int.reduceEq, Int.reduceLT, Int.reduceLE, Int.reduceAdd, Int.reduceSub, Int.reduceMul, Int.reduceNeg, show decide (W.clr cl cx cy ≥ size) = false from decide_eq_false hs, hw]
          by_cases p1 : 0 < cx
          · by_cases p2 : 0 < cy
            · simp (maxDischargeDepth := 8) only [go_sem, reduceIte, reduceCtorEq, Nat.reduceEqDiff, Nat.reduceAdd, Nat.reduceMul, Nat.reduceSub, Nat.reduceLeDiff, Nat.reduceLT, Nat.reduceBEq, Int.reduceToNat, Int.reduceEq, Int.reduceLT, Int.reduceLE, Int.reduceAdd, Int.reduceSub, Int.reduceMul, Int.reduceNeg, hw, r_clear_At hF, m1, wrap_small (x := (cx : Int) - 1) (by omega) (by omega), wrap_small (x := (cy : Int) - 1) (by omega) (by omega), wrap_small (x := W.clr cl cx cy + 1) (by omega) (by omega), g1, g2, wrap_succ (show n ≤ 4611686018427387903 by omega), wrap_succ (show cntGo size ((W.clrs cl).take n) ≤ 4611686018427387903 by omega), show decide ((cx : Int) > 0) = true from decide_eq_true (by omega), show decide ((cy : Int) > 0) = true from decide_eq_true (by omega)]
              rw [KL_keep _ _ _ (by simp (maxDischargeDepth := 8) only [go_sem, reduceIte, reduceCtorEq, Nat.reduceEqDiff, Nat.reduceAdd, Nat.reduceMul, Nat.reduceSub, Nat.reduceLeDiff, Nat.reduceLT, Nat.reduceBEq, Int.reduceToNat, Int.reduceEq, Int.reduceLT, Int.reduceLE, Int.reduceAdd, Int.reduceSub, Int.reduceMul, Int.reduceNeg])]
              simp (maxDischargeDepth := 8) only [go_sem, reduceIte, reduceCtorEq, Nat.reduceEqDiff, Nat.reduceAdd, Nat.reduceMul, Nat.reduceSub, Nat.reduceLeDiff, Nat.reduceLT, Nat.reduceBEq, Int.reduceToNat, Int.reduceEq, Int.reduceLT, Int.reduceLE, Int.reduceAdd, Int.reduceSub, Int.reduceMul, Int.reduceNeg]
              exact h9
            · simp (maxDischargeDepth := 8) only [go_sem, reduceIte, reduceCtorEq, Nat.reduceEqDiff, Nat.reduceAdd, Nat.reduceMul, Nat.reduceSub, Nat.reduceLeDiff, Nat.reduceLT, Nat.reduceBEq, Int.reduceToNat, Int.reduceEq, Int.reduceLT, Int.reduceLE, Int.reduceAdd, Int.reduceSub, Int.reduceMul, Int.reduceNeg, hw, r_clear_At hF, m1, wrap_small (x := (cx : Int) - 1) (by omega) (by omega), wrap_small (x := (cy : Int) - 1) (by omega) (by omega), wrap_small (x := W.clr cl cx cy + 1) (by omega) (by omega), g1, g2, wrap_succ (show n ≤ 4611686018427387903 by omega), wrap_succ (show cntGo size ((W.clrs cl).take n) ≤ 4611686018427387903 by omega), show decide ((cx : Int) > 0) = true from decide_eq_true (by omega), show decide ((cy : Int) > 0) = false from decide_eq_false (by omega)]
              rw [KL_keep _ _ _ (by simp (maxDischargeDepth := 8) only [go_sem, reduceIte, reduceCtorEq, Nat.reduceEqDiff, Nat.reduceAdd, Nat.reduceMul, Nat.reduceSub, Nat.reduceLeDiff, Nat.reduceLT, Nat.reduceBEq, Int.reduceToNat, Int.reduceEq, Int.reduceLT, Int.reduceLE, Int.reduceAdd, Int.reduceSub, Int.reduceMul, Int.reduceNeg])]
              simp (maxDischargeDepth := 8) only [go_sem, reduceIte, reduceCtorEq, Nat.reduceEqDiff, Nat.reduceAdd, Nat.reduceMul, Nat.reduceSub, Nat.reduceLeDiff, Nat.reduceLT, Nat.reduceBEq, Int.reduceToNat, Int.reduceEq, Int.reduceLT, Int.reduceLE, Int.reduceAdd, Int.reduceSub, Int.reduceMul, Int.reduceNeg]
              exact h9
          · by_cases p2 : 0 < cy
            · simp (maxDischargeDepth := 8) only [go_sem, reduceIte, reduceCtorEq, Nat.reduceEqDiff, Nat.reduceAdd, Nat.reduceMul, Nat.reduceSub, Nat.reduceLeDiff, Nat.reduceLT, Nat.reduceBEq, Int.reduceToNat, Int.reduceEq, Int.reduceLT, Int.reduceLE, Int.reduceAdd, Int.reduceSub, Int.reduceMul, Int.reduceNeg, hw, r_clear_At hF, m1, wrap_small (x := (cx : Int) - 1) (by omega) (by omega), wrap_small (x := (cy : Int) - 1) (by omega) (by omega), wrap_small (x := W.clr cl cx cy + 1) (by omega) (by omega), g1, g2, wrap_succ (show n ≤ 4611686018427387903 by omega), wrap_succ (show cntGo size ((W.clrs cl).take n) ≤ 4611686018427387903 by omega), show decide ((cx : Int) > 0) = false from decide_eq_false (by omega), show decide ((cy : Int) > 0) = true from decide_eq_true (by omega)]
              rw [KL_keep _ _ _ (by simp (maxDischargeDepth := 8) only [go_sem, reduceIte, reduceCtorEq, Nat.reduceEqDiff, Nat.reduceAdd, Nat.reduceMul, Nat.reduceSub, Nat.reduceLeDiff, Nat.reduceLT, Nat.reduceBEq, Int.reduceToNat, Int.reduceEq, Int.reduceLT, Int.reduceLE, Int.reduceAdd, Int.reduceSub, Int.reduceMul, Int.reduceNeg])]
              simp (maxDischargeDepth := 8) only [go_sem, reduceIte, reduceCtorEq, Nat.reduceEqDiff, Nat.reduceAdd, Nat.reduceMul, Nat.reduceSub, Nat.reduceLeDiff, Nat.reduceLT, Nat.reduceBEq, Int.reduceToNat, Int.reduceEq, Int.reduceLT, Int.reduceLE, Int.reduceAdd, Int.reduceSub, Int.reduceMul, Int.reduceNeg]
              exact h9
            · simp (maxDischargeDepth := 8) only [go_sem, reduceIte, reduceCtorEq, Nat.reduceEqDiff, Nat.reduceAdd, Nat.reduceMul, Nat.reduceSub, Nat.reduceLeDiff, Nat.reduceLT, Nat.reduceBEq, Int.reduceToNat, Int.reduceEq, Int.reduceLT, Int.reduceLE, Int.reduceAdd, Int.reduceSub, Int.reduceMul, Int.reduceNeg, hw, r_clear_At hF, m1, wrap_small (x := (cx : Int) - 1) (by omega) (by omega), wrap_small (x := (cy : Int) - 1) (by omega) (by omega), wrap_small (x := W.clr cl cx cy + 1) (by omega) (by omega), g1, g2, wrap_succ (show n ≤ 4611686018427387903 by omega), wrap_succ (show cntGo size ((W.clrs cl).take n) ≤ 4611686018427387903 by omega), show decide ((cx : Int) > 0) = false from decide_eq_false (by omega), show decide ((cy : Int) > 0) = false from decide_eq_false (by omega)]
              rw [KL_keep _ _ _ (by simp (maxDischargeDepth := 8) only [go_sem, reduceIte, reduceCtorEq, Nat.reduceEqDiff, Nat.reduceAdd, Nat.reduceMul, Nat.reduceSub, Nat.reduceLeDiff, Nat.reduceLT, Nat.reduceBEq, Int.reduceToNat, Int.reduceEq, Int.reduceLT, Int.reduceLE, Int.reduceAdd, Int.reduceSub, Int.reduceMul, Int.reduceNeg])]
              simp (maxDischargeDepth := 8) only [go_sem, reduceIte, reduceCtorEq, Nat.reduceEqDiff, Nat.reduceAdd, Nat.reduceMul, Nat.reduceSub, Nat.reduceLeDiff, Nat.reduceLT, Nat.reduceBEq, Int.reduceToNat, Int.reduceEq, Int.reduceLT, Int.reduceLE, Int.reduceAdd, Int.reduceSub, Int.reduceMul, Int.reduceNeg]
              exact h9
      · obtain rfl : n = W.w.toNat * W.h.toNat := by omega
        rw [← clrs_len W cl, List.take_length, clrs_len] 
        simp (maxDischargeDepth := 8) only [go_sem, reduceIte, reduceCtorEq, Nat.reduceEqDiff, Nat.reduceAdd, Nat.reduceMul, Nat.reduceSub, Nat.reduceLeDiff, Nat.reduceLT, Nat.reduceBEq, Int.reduceToNat, Int.reduceEq, Int.reduceLT, Int.reduceLE, Int.reduceAdd, Int.reduceSub, Int.reduceMul, Int.reduceNeg, show decide (((W.w.toNat * W.h.toNat : Nat) : Int) < W.w * W.h) = false from decide_eq_false (by omega), hw, r_clear_Count hF, show ∀ n : Int, (n == n) = true from fun n => by simp]
        generalize hz : RF tb f_law07_awake _ _ = z
        obtain ⟨H', u, rfl, -⟩ := aw07 hz (by simp (maxDischargeDepth := 8) only [go_sem, reduceIte, reduceCtorEq, Nat.reduceEqDiff, Nat.reduceAdd, Nat.reduceMul, Nat.reduceSub, Nat.reduceLeDiff, Nat.reduceLT, Nat.reduceBEq, Int.reduceToNat, Int.reduceEq, Int.reduceLT, Int.reduceLE, Int.reduceAdd, Int.reduceSub, Int.reduceMul, Int.reduceNeg, hw]) hle3
        simp (maxDischargeDepth := 8) only [go_sem, reduceIte, reduceCtorEq, Nat.reduceEqDiff, Nat.reduceAdd, Nat.reduceMul, Nat.reduceSub, Nat.reduceLeDiff, Nat.reduceLT, Nat.reduceBEq, Int.reduceToNat, Int.reduceEq, Int.reduceLT, Int.reduceLE, Int.reduceAdd, Int.reduceSub, Int.reduceMul, Int.reduceNeg, hw]
        exact ⟨_, rfl⟩
    · simp (maxDischargeDepth := 8) only [go_sem, reduceIte, reduceCtorEq, Nat.reduceEqDiff, Nat.reduceAdd, Nat.reduceMul, Nat.reduceSub, Nat.reduceLeDiff, Nat.reduceLT, Nat.reduceBEq, Int.reduceToNat, Int.reduceEq, Int.reduceLT, Int.reduceLE, Int.reduceAdd, Int.reduceSub, Int.reduceMul, Int.reduceNeg, hw, r_clear_New_no hO.at_ (cl := cl) hc, show ((1 : Int) != 0) = true from rfl]
      generalize hz : RF tb f_law07_awake _ _ = z
      obtain ⟨H', u, rfl, -⟩ := aw07 hz (by simp (maxDischargeDepth := 8) only [go_sem, reduceIte, reduceCtorEq, Nat.reduceEqDiff, Nat.reduceAdd, Nat.reduceMul, Nat.reduceSub, Nat.reduceLeDiff, Nat.reduceLT, Nat.reduceBEq, Int.reduceToNat, Int.reduceEq, Int.reduceLT, Int.reduceLE, Int.reduceAdd, Int.reduceSub, Int.reduceMul, Int.reduceNeg, hw]) hle
      simp (maxDischargeDepth := 8) only [go_sem, reduceIte, reduceCtorEq, Nat.reduceEqDiff, Nat.reduceAdd, Nat.reduceMul, Nat.reduceSub, Nat.reduceLeDiff, Nat.reduceLT, Nat.reduceBEq, Int.reduceToNat, Int.reduceEq, Int.reduceLT, Int.reduceLE, Int.reduceAdd, Int.reduceSub, Int.reduceMul, Int.reduceNeg, hw]
      exact ⟨_, rfl⟩
theorem law07_ClearCounts {P : Program} {e e' : TypeId} {okB : Bl' → Prop} (a : MT) (cl size : Int) (h1 : slOk P e (inR .u8) a.2.2.1) (h2 : slOk P e' okB a.2.2.2) (hB : P.bytesOf e' = 40) {n0 n1 n2 : In} (e0 : n0.map (·.2) = rdM.blks a 0) : ∃ m', RF tb f_law07_ClearCounts [.agg (rdM.cells a 0), .int .i64 cl, .int .i64 size] (In.mem ([] ++ n0 ++ n1 ++ n2)) = some (.bool true, m') := by
  rw [rdM_blks] at e0
  rw [rdM_cells, List.append_assoc ([] ++ n0)]
  exact r_law07_ClearCounts (W := ⟨a.1, a.2.1, a.2.2.1.l, a.2.2.2.l.map bl5, []⟩) rfl (mapIn_of (pre := []) h1 h2 hB e0) (In.wf _) (Nat.zero_le _) _ _
end Go.Sh.T
