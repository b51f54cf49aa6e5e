import Derived.Test.YtmejoegppiilmaaShWSettleNearestb
import Derived.Test.YtmejoegppiilmaaShArg
set_option linter.all false
set_option linter.unusedVariables false
set_option linter.unusedSimpArgs false
set_option autoImplicit false
namespace Go.Sh.T
open Go.Sh
set_option maxHeartbeats 8000000
set_option maxRecDepth 20000
section
variable (N : Nat) (st : Nat → Bool) (rt : Nat → Nat) (nb : Nat → Nat → Option Nat)
/-- What spreading has come to behind the first k cells. -/
structure Out (k : Nat) (L : List Nat) (n : Nat) : Prop where
  len : L.length = N
  zero : ∀ j, j < N → L.getD j 0 ≠ 0 → st j = true
  below : ∀ j, j < k → st j = true → L.getD j 0 ≠ 0
  cl : ∀ a b, a < N → b < N → rt a = rt b → L.getD a 0 ≠ 0 → st b = true → L.getD b 0 = L.getD a 0
  rep : ∀ j, j < N → L.getD j 0 ≠ 0 → ∃ f, f < k ∧ Fst st (fun x y => rt x = rt y) f ∧ rt f = rt j ∧ L.getD j 0 = cntF st (fun x y => rt x = rt y) f + 1
  cnt : n = cntF st (fun x y => rt x = rt y) k
/-- While it spreads from cell i; of cell c the first d directions are done. -/
structure Flo (L0 : List Nat) (i m : Nat) (L : List Nat) (T : List Nat) (c d : Nat) : Prop where
  len : L.length = N
  old : ∀ j, L0.getD j 0 ≠ 0 → L.getD j 0 = L0.getD j 0
  new : ∀ j, L0.getD j 0 = 0 → L.getD j 0 = 0 ∨ (j < N ∧ L.getD j 0 = m ∧ st j = true ∧ rt i = rt j)
  todo : ∀ x ∈ T, x < N ∧ L0.getD x 0 = 0 ∧ L.getD x 0 = m
  cur : L0.getD c 0 = 0 ∧ L.getD c 0 = m ∧ c < N
  start : L.getD i 0 = m ∧ L0.getD i 0 = 0
  done : ∀ x, x < N → L0.getD x 0 = 0 → L.getD x 0 = m → x ∉ T → x ≠ c → ∀ e b, e < 8 → nb x e = some b → L.getD b 0 ≠ 0
  part : ∀ e b, e < d → nb c e = some b → L.getD b 0 ≠ 0
end
section
variable {N : Nat} {st : Nat → Bool} {rt : Nat → Nat} {nb : Nat → Nat → Option Nat}
/-- What steps are. -/
structure NbOk (N : Nat) (st : Nat → Bool) (rt : Nat → Nat) (nb : Nat → Nat → Option Nat) : Prop where
  to : ∀ c d b, c < N → nb c d = some b → st c = true ∧ st b = true ∧ b < N ∧ rt c = rt b
  all : ∀ (P : Nat → Prop) a b, a < N → b < N → rt a = rt b → P a → (∀ x d y, d < 8 → x < N → P x → nb x d = some y → P y) → st a = true → st b = true → P b
theorem out_zero (N : Nat) (st : Nat → Bool) (rt : Nat → Nat) : Out N st rt 0 (List.replicate N 0) 0 := by
  have h0 : ∀ i, (List.replicate N 0).getD i 0 = 0 := fun i => by
    rw [List.getD_eq_getElem?_getD, List.getElem?_replicate]; split <;> rfl
  exact ⟨by simp, fun j _ h => absurd (h0 j) h, fun j h => by omega, fun a b _ _ _ h => absurd (h0 a) h, fun j _ h => absurd (h0 j) h, rfl⟩
theorem Out.skip {k n : Nat} {L : List Nat} (h : Out N st rt k L n) (hk : k < N) (hs : st k = false ∨ L.getD k 0 ≠ 0) : Out N st rt (k + 1) L n := by
  have hno : ¬ Fst st (fun x y => rt x = rt y) k := fun hf => by
    rcases hs with hs | hs
    · have := hf.1; rw [hs] at this; cases this
    · obtain ⟨f, h1, h2, h3, _⟩ := h.rep k hk hs
      exact hf.2 f h1 h2.1 h3
  refine ⟨h.len, h.zero, fun j hj hsj => ?_, h.cl, fun j hj hl => ?_, by rw [cntF_no hno]; exact h.cnt⟩
  · by_cases e : j = k
    · subst e
      rcases hs with hs | hs
      · rw [hs] at hsj; cases hsj
      · exact hs
    · exact h.below j (by omega) hsj
  · obtain ⟨f, h1, h2⟩ := h.rep j hj hl
    exact ⟨f, by omega, h2⟩
theorem Out.fst {k n : Nat} {L : List Nat} (h : Out N st rt k L n) (hk : k < N) (hs : st k = true) (h0 : L.getD k 0 = 0) : Fst st (fun x y => rt x = rt y) k := ⟨hs, fun j hj hsj hr => by
  have := h.cl j k (by omega) hk hr (h.below j hj hsj) hs
  rw [h0] at this
  exact h.below j hj hsj this.symm⟩
/-- It begins. -/
theorem flo_begin {k n : Nat} {L : List Nat} (h : Out N st rt k L n) (hk : k < N) (hs : st k = true) (h0 : L.getD k 0 = 0) : Flo N st rt nb L k (n + 1) (L.set k (n + 1)) [k] k 0 := by
  have hkl : k < L.length := by rw [h.len]; exact hk
  refine ⟨by rw [List.length_set]; exact h.len, fun j hj => ?_, fun j hj => ?_, fun x hx => ?_, ⟨h0, by rw [getD_set hkl, if_pos rfl], hk⟩, ⟨by rw [getD_set hkl, if_pos rfl], h0⟩, fun x hx hx0 hxm hxt => ?_, fun e b he => by omega⟩
  · rw [getD_set hkl, if_neg (fun e => by subst e; exact hj h0)]
  · rw [getD_set hkl]
    by_cases e : j = k
    · subst e; exact .inr ⟨hk, by rw [if_pos rfl], hs, rfl⟩
    · rw [if_neg e]; exact .inl hj
  · simp at hx; subst hx
    exact ⟨hk, h0, by rw [getD_set hkl, if_pos rfl]⟩
  · rw [getD_set hkl] at hxm
    by_cases e : x = k
    · subst e; simp at hxt
    · rw [if_neg e, hx0] at hxm; omega
/-- A cell is taken from the list. -/
theorem Flo.pop {L0 L : List Nat} {i m c d x : Nat} {T : List Nat} (h : Flo N st rt nb L0 i m L (T ++ [x]) c d) (hd : ∀ e b, e < 8 → nb c e = some b → c ∉ T ++ [x] → L.getD b 0 ≠ 0) : Flo N st rt nb L0 i m L T x 0 := by
  obtain ⟨x1, x2, x3⟩ := h.todo x (by simp)
  refine ⟨h.len, h.old, h.new, fun y hy => h.todo y (by simp [hy]), ⟨x2, x3, x1⟩, h.start, fun y hy hy0 hym hyt hyx e b he hb => ?_, fun e b he => by omega⟩
  by_cases hyc : y = c
  · subst hyc
    exact hd e b he hb (by simp [hyt, hyx])
  · exact h.done y hy hy0 hym (by simp [hyt, hyx]) hyc e b he hb
/-- A direction is done. -/
theorem Flo.no {L0 L : List Nat} {i m c d : Nat} {T : List Nat} (h : Flo N st rt nb L0 i m L T c d) (hb : ∀ b, nb c d = some b → L.getD b 0 ≠ 0) : Flo N st rt nb L0 i m L T c (d + 1) :=
  ⟨h.len, h.old, h.new, h.todo, h.cur, h.start, h.done, fun e b he hn => by
    by_cases e1 : e = d
    · subst e1; exact hb b hn
    · exact h.part e b (by omega) hn⟩
theorem Flo.yes (hN : NbOk N st rt nb) {L0 L : List Nat} {i m c d b : Nat} {T : List Nat} (hm : m ≠ 0) (h : Flo N st rt nb L0 i m L T c d) (hb : nb c d = some b) (h0 : L.getD b 0 = 0) : Flo N st rt nb L0 i m (L.set b m) (T ++ [b]) c (d + 1) := by
  obtain ⟨n1, n2, n3, n4⟩ := hN.to c d b h.cur.2.2 hb
  have hbl : b < L.length := by rw [h.len]; exact n3
  have hb0 : L0.getD b 0 = 0 := by
    rcases Nat.eq_zero_or_pos (L0.getD b 0) with h1 | h1
    · exact h1
    · have := h.old b (by omega); omega
  have hic : rt i = rt c := by
    rcases h.new c h.cur.1 with h1 | h1
    · have := h.cur.2.1; omega
    · exact h1.2.2.2
  have up : ∀ j, L.getD j 0 ≠ 0 → (L.set b m).getD j 0 = L.getD j 0 := fun j hj => by
    rw [getD_set hbl, if_neg (fun e => by subst e; exact hj h0)]
  refine ⟨by rw [List.length_set]; exact h.len, fun j hj => ?_, fun j hj => ?_, fun x hx => ?_, ⟨h.cur.1, ?_, h.cur.2.2⟩, ⟨?_, h.start.2⟩, fun x hx hx0 hxm hxt hxc e b' he hn => ?_, fun e b' he hn => ?_⟩
  · rw [up j (by rw [h.old j hj]; exact hj)]; exact h.old j hj
  · rw [getD_set hbl]
    by_cases e : j = b
    · subst e; exact .inr ⟨n3, by rw [if_pos rfl], n2, hic.trans n4⟩
    · rw [if_neg e]; exact h.new j hj
  · rcases List.mem_append.1 hx with h1 | h1
    · obtain ⟨y1, y2, y3⟩ := h.todo x h1
      exact ⟨y1, y2, by rw [up x (by omega)]; exact y3⟩
    · simp at h1; subst h1
      exact ⟨n3, hb0, by rw [getD_set hbl, if_pos rfl]⟩
  · rw [up c (by have := h.cur.2.1; omega)]; exact h.cur.2.1
  · rw [up i (by have := h.start.1; omega)]; exact h.start.1
  · have hxb : x ≠ b := fun e => hxt (by simp [e])
    rw [getD_set hbl, if_neg hxb] at hxm
    have := h.done x hx hx0 hxm (fun hc => hxt (by simp [hc])) hxc e b' he hn
    rw [up b' this]; exact this
  · by_cases e1 : e = d
    · subst e1
      rw [hb] at hn; cases hn
      rw [getD_set hbl, if_pos rfl]; exact hm
    · have := h.part e b' (by omega) hn
      rw [up b' this]; exact this
/-- It is through. -/
theorem Flo.fin (hN : NbOk N st rt nb) {L0 L : List Nat} {k n c d : Nat} (ho : Out N st rt k L0 n) (hk : k < N) (hs : st k = true) (h : Flo N st rt nb L0 k (n + 1) L [] c d) (hd : ∀ e b, e < 8 → nb c e = some b → L.getD b 0 ≠ 0) : Out N st rt (k + 1) L (n + 1) := by
  have hf := ho.fst hk hs h.start.2
  have hS : ∀ x, x < N → L0.getD x 0 = 0 → L.getD x 0 = n + 1 → ∀ e b, e < 8 → nb x e = some b → L0.getD b 0 = 0 ∧ L.getD b 0 = n + 1 := fun x hx hx0 hxm e b he hn => by
    have hb : L.getD b 0 ≠ 0 := by
      by_cases e1 : x = c
      · subst e1; exact hd e b he hn
      · exact h.done x hx hx0 hxm (by simp) e1 e b he hn
    obtain ⟨n1, n2, n3, n4⟩ := hN.to x e b hx hn
    have hb0 : L0.getD b 0 = 0 := by
      rcases Nat.eq_zero_or_pos (L0.getD b 0) with h1 | h1
      · exact h1
      · have := ho.cl b x n3 hx n4.symm (by omega) n1
        omega
    exact ⟨hb0, by
      rcases h.new b hb0 with h1 | h1
      · exact absurd h1 hb
      · exact h1.2.1⟩
  refine ⟨h.len, fun j hj hl => ?_, fun j hj hsj => ?_, fun a b ha hb hr hl hsb => ?_, fun j hj hl => ?_, by rw [cntF_fst hf, ho.cnt]⟩
  · rcases Nat.eq_zero_or_pos (L0.getD j 0) with h1 | h1
    · rcases h.new j h1 with h2 | h2
      · exact absurd h2 hl
      · exact h2.2.2.1
    · exact ho.zero j hj (by omega)
  · by_cases e : j = k
    · subst e; rw [h.start.1]; omega
    · have := ho.below j (by omega) hsj
      rw [h.old j this]; exact this
  · rcases Nat.eq_zero_or_pos (L0.getD a 0) with h1 | h1
    · rcases h.new a h1 with h2 | h2
      · exact absurd h2 hl
      · have := hN.all (fun x => L0.getD x 0 = 0 ∧ L.getD x 0 = n + 1) a b ha hb hr ⟨h1, h2.2.1⟩ (fun x d y hd8 hx hp hn => hS x hx hp.1 hp.2 d y hd8 hn) h2.2.2.1 hsb
        rw [this.2, h2.2.1]
    · have h2 := ho.cl a b ha hb hr (by omega) hsb
      rw [h.old a (by omega), h.old b (by omega), h2]
  · rcases Nat.eq_zero_or_pos (L0.getD j 0) with h1 | h1
    · rcases h.new j h1 with h2 | h2
      · exact absurd h2 hl
      · exact ⟨k, by omega, hf, h2.2.2.2, by rw [h2.2.1, ho.cnt]⟩
    · obtain ⟨f, f1, f2⟩ := ho.rep j hj (by omega)
      exact ⟨f, by omega, by rw [h.old j (by omega)]; exact f2⟩
/-- All cells through: numbers in the order of the firsts. -/
theorem Out.canon {L : List Nat} {n : Nat} (h : Out N st rt N L n) : Canon N st (fun x y => rt x = rt y) (fun i => L.getD i 0) := by
  intro i hi
  refine ⟨fun hs => ?_, fun hs => ?_⟩
  · rcases Nat.eq_zero_or_pos (L.getD i 0) with h1 | h1
    · exact h1
    · have := h.zero i hi (by omega); rw [hs] at this; cases this
  · have hl := h.below i hi hs
    obtain ⟨f, f1, f2, f3, f4⟩ := h.rep i hi hl
    rcases Nat.lt_trichotomy f i with e | e | e
    · refine .inl ⟨f, e, f2.1, f3, ?_⟩
      exact (h.cl f i (by omega) hi f3 (h.below f (by omega) f2.1) hs)
    · subst e; exact .inr ⟨fun j hj hsj hr => f2.2 j hj hsj hr, f4⟩
    · exact absurd f3.symm (f2.2 i e hs)
end
def nbC (W : Wd) (cl sz : Int) (c d : Nat) : Option Nat := if W.steps cl sz ((c % W.w.toNat : Nat) : Int) ((c / W.w.toNat : Nat) : Int) (d : Int) = true then some (ixC W (((c % W.w.toNat : Nat) : Int) + turnX d) (((c / W.w.toNat : Nat) : Int) + turnY d)) else none
theorem ix_cell {W : Wd} (i : Nat) : ixC W ((i % W.w.toNat : Nat) : Int) ((i / W.w.toNat : Nat) : Int) = i := by
  unfold ixC
  rw [Int.toNat_natCast, Int.toNat_natCast, Nat.mul_comm]
  exact Nat.div_add_mod i W.w.toNat
theorem nb_ok {W : Wd} {cl sz : Int} {rt : Nat → Nat} (w1 : 1 ≤ W.w ∧ W.w ≤ 128) (w2 : 1 ≤ W.h ∧ W.h ≤ 128) (hr : ∀ x y, x < W.w.toNat * W.h.toNat → y < W.w.toNat * W.h.toNat → (rt x = rt y ↔ Lnk (EL W cl sz (W.w.toNat * W.h.toNat)) x y)) : NbOk (W.w.toNat * W.h.toNat) (stI W cl sz) rt (nbC W cl sz) := by
  have hw : 0 < W.w.toNat := by omega
  refine ⟨fun c d b hc h => ?_, fun P a b ha hb hab hPa hcl hsa hsb => ?_⟩
  · unfold nbC at h
    split at h
    · rename_i hs
      simp only [Option.some.injEq] at h
      have hl := link_step (cl := cl) (sz := sz) w1.1 hs
      rw [h, ix_cell] at hl
      simp only [Wd.steps, Bool.and_eq_true] at hs
      have b2 := stands_bx7 hs.1.2
      obtain ⟨q1, q2, q3⟩ := ix_in (W := W) w1.1 b2
      rw [h] at q1
      refine ⟨hs.1.1.2, ?_, q1, (hr _ _ hc q1).2 hl⟩
      rw [← h]
      exact (stI_ix w1.1 b2).trans hs.1.2
    · cases h
  · have hl := (hr a b ha hb).1 hab
    have one : ∀ x y d, (d : Nat) < 4 → x < W.w.toNat * W.h.toNat → P x → stI W cl sz x = true → stI W cl sz y = true → cellI W y = mvC (cellI W x) d → P y := fun x y d hd hx hP s1 s2 he => by
      have h1 := congrArg Prod.fst he
      have h2 := congrArg Prod.snd he
      simp only [mvC, cellI] at h1 h2
      have hk := side_ok (W := W) (cl := cl) (sz := sz) w1 w2 (d := (d : Int)) (by omega) (x := (cellI W x).1) (y := (cellI W x).2) s1 (by
        show W.stands cl sz _ _ = true
        simp only [cellI]
        rw [← h1, ← h2]; exact s2)
      simp only [okR, okS, Bool.and_eq_true] at hk
      refine hcl x d y (by omega) hx hP ?_
      unfold nbC
      rw [if_pos (show W.steps cl sz ((x % W.w.toNat : Nat) : Int) ((x / W.w.toNat : Nat) : Int) (d : Int) = true from hk.1.2), ← h1, ← h2, ix_cell]
    have key : ∀ {x y}, Lnk (EL W cl sz (W.w.toNat * W.h.toNat)) x y → P x → P y := fun {x y} h => by
      induction h with
      | refl => exact id
      | @step b c hbc e ih =>
        intro hx
        have hPb := ih hx
        rcases e with ⟨k1, s1, s2, e⟩ | ⟨k1, s1, s2, e⟩
        · rcases e with ⟨e1, e2⟩ | e1
          · obtain ⟨q1, q2⟩ := cell_left hw e1
            have : c = b - 1 := by omega
            subst this
            refine one b _ 2 (by omega) k1 hPb s1 s2 ?_
            simp only [cellI, mvC, q1, q2]
            exact Prod.ext (show _ = _ + (-1 : Int) by dsimp only; omega) (show _ = _ + (0 : Int) by dsimp only; omega)
          · obtain ⟨q1, q2, q3⟩ := cell_up hw (b := b) (by omega)
            have : c = b - W.w.toNat := by omega
            subst this
            refine one b _ 3 (by omega) k1 hPb s1 s2 ?_
            simp only [cellI, mvC, q1, q2]
            exact Prod.ext (show _ = _ + (0 : Int) by dsimp only; omega) (show _ = _ + (-1 : Int) by dsimp only; omega)
        · rcases e with ⟨e1, e2⟩ | e1
          · obtain ⟨q1, q2⟩ := cell_left hw e1
            have : b = c - 1 := by omega
            subst this
            refine one _ c 0 (by omega) (by omega) hPb s2 s1 ?_
            simp only [cellI, mvC, q1, q2]
            exact Prod.ext (show _ = _ + (1 : Int) by dsimp only; omega) (show _ = _ + (0 : Int) by dsimp only; omega)
          · obtain ⟨q1, q2, q3⟩ := cell_up hw (b := c) (by omega)
            have : b = c - W.w.toNat := by omega
            subst this
            refine one _ c 1 (by omega) (by omega) hPb s2 s1 ?_
            simp only [cellI, mvC, q1, q2]
            exact Prod.ext (show _ = _ + (0 : Int) by dsimp only; omega) (show _ = _ + (1 : Int) by dsimp only; omega)
    exact key hl hPa
def zc : List Nat → Nat
  | [] => 0
  | x :: l => (if x = 0 then 1 else 0) + zc l
theorem zc_le : ∀ l : List Nat, zc l ≤ l.length := by
  intro l
  induction l with
  | nil => exact Nat.le_refl _
  | cons x l ih => simp only [zc, List.length_cons]; split <;> omega
theorem zc_set : ∀ (l : List Nat) (b m : Nat), b < l.length → l.getD b 0 = 0 → m ≠ 0 → zc (l.set b m) + 1 = zc l := by
  intro l
  induction l with
  | nil => intro b m h; simp at h
  | cons x l ih =>
    intro b m h h0 hm
    cases b with
    | zero =>
      have hx : x = 0 := h0
      simp only [List.set_cons_zero, zc, hx, if_neg hm, if_true]
      omega
    | succ b =>
      have := ih b m (by simp at h; omega) h0 hm
      simp only [List.set_cons_succ, zc]
      omega
theorem own_popC {H : Hp} {v : SV} {l : List (Int × Int)} {x : Int × Int} (ow : Own cellF H v (l ++ [x])) (cp : capL v = true) : sliceV 2 v none (some (l.length : Int)) none = some (takeV l.length v) ∧ Own cellF H (takeV l.length v) l ∧ slFp (takeV l.length v) = slFp v ∧ capL (takeV l.length v) = true := by
  rcases ow with ⟨rfl, h⟩ | ⟨rfl, h⟩ | ⟨k, w, off, cap, c, rfl, h1, h2, h3⟩
  · simp at h
  · simp at h
  · have hlen : (l ++ [x]).length = l.length + 1 := by simp
    rw [hlen] at cp h2 h3 ⊢
    have hq : l.length ≤ cap.getD (l.length + 1) := by
      cases cap with
      | none => simp
      | some q => simp only [capL, decide_eq_true_eq] at cp; simp only [Option.getD_some]; omega
    have hz : cellF.sz = 2 := rfl
    rw [hz] at h2 h3
    refine ⟨?_, .inr (.inr ⟨k, w, off, cap, c, rfl, h1, by rw [hz]; omega, ?_⟩), rfl, ?_⟩
    · have a1 : (0 : Int) ≤ (l.length : Int) ∧ (l.length : Int) ≤ (cap.getD (l.length + 1) : Nat) := by omega
      simp only [sliceV, bnds, hz, if_true, if_pos a1, Option.map_some, takeV, Int.toNat_natCast, Nat.zero_mul, Nat.add_zero, Nat.sub_zero]
    · rw [hz]
      have := congrArg (List.take (l.length * 2)) h3
      rw [List.take_take, Nat.min_eq_left (by omega)] at this
      rw [this, List.flatMap_append, List.take_append_of_le_length (by rw [flat_len cellF_even]; exact Nat.le_refl _), ← hz, ← flat_len cellF_even, List.take_length]
    · cases cap with
      | none => rfl
      | some q => simp only [capL, decide_eq_true_eq] at cp ⊢; simp only [takeV, capL, decide_eq_true_eq]; omega
theorem r_ref08_Labels {X : Mem} {v : SV} {W : Wd} {cl sz : Int} {rt : Nat → Nat} (hv : LiesD boolF (Hm X.heap) v (W.gr cl sz)) (w1 : 1 ≤ W.w ∧ W.w ≤ 128) (w2 : 1 ≤ W.h ∧ W.h ≤ 128) (hN : NbOk (W.w.toNat * W.h.toNat) (stI W cl sz) rt (nbC W cl sz)) (hw : X.Wf) (hhb : X.hb ≤ X.hl) :
    ∃ H' v' L n, RF tb f_ref08_Ground_Labels [grV W.w W.h v] X = some (v', X.hp H') ∧ Own natF H' v' L ∧ Out (W.w.toNat * W.h.toNat) (stI W cl sz) rt (W.w.toNat * W.h.toNat) L n ∧ Keep [] X.heap H' ∧ ∀ i ∈ slFp v', X.hl ≤ i := by
  rw [RF_go t_ref08_Ground_Labels _ _ rfl, push_hp]
  generalize hH : X.heap = H at *
  have hHl : X.hl = H.length := by rw [← hH]; rfl
  obtain ⟨N, hNn⟩ : ∃ N, W.w.toNat * W.h.toNat = N := ⟨_, rfl⟩
  rw [hNn] at hN ⊢
  have hwh : W.w * W.h = (N : Int) := by rw [← hNn, Int.natCast_mul, Int.toNat_of_nonneg (by omega), Int.toNat_of_nonneg (by omega)]
  have hn2 : N ≤ 16384 := by rw [← hNn]; exact Nat.mul_le_mul (show W.w.toNat ≤ 128 by omega) (show W.h.toNat ≤ 128 by omega)
  have wn : IntKind.wrap .i64 (W.w * W.h) = (N : Int) := by rw [wrap_small (by omega) (by omega), hwh]
  have hv2 : ((8 : Int) * (N : Int) ≤ (two48 : Int)) = True := by simp [two48]; omega
  have hv3 : ((N : Int) < 9223372036854775808) = True := by simp; omega
  have hv4 : ((0 : Int) ≤ (N : Int)) = True := by simp
  have sv := hv.isSl
  simp (maxDischargeDepth := 8) only [go_sem, s_ref08_Ground_Labels, grV, hw, hH, wn, hv2, hv3, hv4, Int.le_refl, sv.l, sv.c, sv.k, sv.o]
  obtain ⟨H1, hH1⟩ : ∃ H1, H ++ [(0, SBk.cells true (List.replicate N [SV.int .i64 0]).flatten)] = H1 := ⟨_, rfl⟩
  have own : Own natF H1 (.sl (.hp H.length 0) 0 N (some N) 1) (List.replicate N 0) := by rw [← hH1]; exact mkslV_own natF_even H 0 N
  have k1 : Keep [] H H1 := by rw [← hH1]; exact Keep.app _ _ _
  rw [hH1]
  have fp : ∀ i ∈ slFp (.sl (.hp H.length 0) 0 N (some N) 1), i = H.length := by simp [slFp]
  have hx : (SV.sl (.hp H.length 0) 0 N (some N) 1).hx = H.length + 1 := rfl
  generalize (SV.sl (.hp H.length 0) 0 N (some N) 1) = ov at *
  have so := own.isSl natF_even
  rw [KL_keep _ _ _ (by simp (maxDischargeDepth := 8) only [go_sem, so.l])]
  simp (maxDischargeDepth := 8) only [go_sem]
  refine KL_ind (R := fun z => ∃ H' v' L n, fin [.t 2] X z = some (v', X.hp H') ∧ Own natF H' v' L ∧ Out N (stI W cl sz) rt N L n ∧ Keep [] H H' ∧ ∀ i ∈ slFp v', X.hl ≤ i)
    (α := Nat × Nat × List Nat × Hp) (fun q => N - q.1) (fun q => [(1, .ptr (.st X.dep 0) 0), (3, ov), (4, .int .i64 (q.2.1 : Int)), (5, .int .i64 (q.1 : Int))]) (fun q => (X.hp q.2.2.2).fr [.cells true [.int .i64 W.w, .int .i64 W.h, v]] none)
    (fun q => q.1 ≤ N ∧ Own natF q.2.2.2 ov q.2.2.1 ∧ Keep [] H q.2.2.2 ∧ H.length < q.2.2.2.length ∧ Out N (stI W cl sz) rt q.1 q.2.2.1 q.2.1 ∧ q.2.1 ≤ q.1) ?_ (0, 0, List.replicate N 0, H1) ⟨Nat.zero_le _, own, k1, by rw [← hH1]; simp, out_zero _ _ _, Nat.le_refl _⟩
  clear own k1 hH1
  rintro ⟨i, n, L, Hc⟩ ⟨hi, ow, kH, hlt1, hO, hni⟩ ih
  dsimp only at hi ow kH hlt1 hO hni ⊢
  have lo := ow.lies natF_even
  have hLl := hO.len
  have hv' : LiesD boolF (Hm Hc) v (W.gr cl sz) := hv.keep kH (by simp)
  by_cases hlt : i < N
  · have hgi : (W.gr cl sz)[i]? = some (stI W cl sz i) := by unfold Wd.gr; rw [hNn, List.getElem?_map, List.getElem?_range hlt]; rfl
    have hgl : (W.gr cl sz).length = N := by rw [gr_len, hNn]
    have hLi : L[i]? = some (L.getD i 0) := by rw [List.getD_eq_getElem?_getD, List.getElem?_eq_getElem (by omega)]; rfl
    have hit := fun (k : IntKind) (m' : Mem) => hv'.iaddrT (i := (i : Int)) (by omega) (by omega) k m'
    simp only [Int.toNat_natCast] at hit
    have base := fun (l : List SV) => so.l
    by_cases hsk : stI W cl sz i = false ∨ L.getD i 0 ≠ 0
    · have hc1 : (!stI W cl sz i || decide ((L.getD i 0 : Int) > 0)) = true := by
        rcases hsk with h | h
        · rw [h]; rfl
        · rw [show decide ((L.getD i 0 : Int) > 0) = true from decide_eq_true (by omega)]; simp
      cases hst : stI W cl sz i with
      | false =>
        rw [hst] at hgi
        simp (maxDischargeDepth := 8) only [go_sem, hw, so.l, lo.len, hLl, show decide ((i : Int) < (N : Int)) = true from decide_eq_true (by omega), hit, hv'.loadT hgi, wrap_succ (show i ≤ 4611686018427387903 by omega)]
        rw [KL_keep _ _ _ (by simp (maxDischargeDepth := 8) only [go_sem, so.l])]
        simp (maxDischargeDepth := 8) only [go_sem]
        exact ih (i + 1, n, L, Hc) ⟨by dsimp only; omega, ow, kH, hlt1, hO.skip hlt hsk, by dsimp only; omega⟩ (by dsimp only; omega)
      | true =>
        rw [hst] at hgi
        have hne : L.getD i 0 ≠ 0 := by
          rcases hsk with h | h
          · rw [hst] at h; cases h
          · exact h
        simp (maxDischargeDepth := 8) only [go_sem, hw, so.l, lo.len, hLl, show decide ((i : Int) < (N : Int)) = true from decide_eq_true (by omega), hit, hv'.loadT hgi, lo.iaddrN (i := i) (by omega), lo.loadN' hLi, show decide ((L.getD i 0 : Int) > 0) = true from decide_eq_true (by omega), wrap_succ (show i ≤ 4611686018427387903 by omega)]
        rw [KL_keep _ _ _ (by simp (maxDischargeDepth := 8) only [go_sem, so.l])]
        simp (maxDischargeDepth := 8) only [go_sem]
        exact ih (i + 1, n, L, Hc) ⟨by dsimp only; omega, ow, kH, hlt1, hO.skip hlt hsk, by dsimp only; omega⟩ (by dsimp only; omega)
    · have hst : stI W cl sz i = true := by
        cases h : stI W cl sz i with
        | false => exact absurd (.inl h) hsk
        | true => rfl
      have h0 : L.getD i 0 = 0 := by
        rcases Nat.eq_zero_or_pos (L.getD i 0) with h | h
        · exact h
        · exact absurd (.inr (by omega)) hsk
      rw [hst] at hgi
      rw [h0] at hLi
      have tmw : (i : Int).tmod W.w = ((i % W.w.toNat : Nat) : Int) := by rw [Int.tmod_eq_emod_of_nonneg (by omega), Int.natCast_emod, Int.toNat_of_nonneg (by omega)]
      have tdw : IntKind.wrap .i64 ((i : Int).tdiv W.w) = ((i / W.w.toNat : Nat) : Int) := by
        have : (i : Int).tdiv W.w = ((i / W.w.toNat : Nat) : Int) := by rw [Int.tdiv_eq_ediv_of_nonneg (by omega), Int.natCast_ediv, Int.toNat_of_nonneg (by omega)]
        have h9 : i / W.w.toNat ≤ i := Nat.div_le_self _ _
        rw [this]
        generalize i / W.w.toNat = q at *
        exact wrap_small (by omega) (by omega)
      obtain ⟨H2, st2, o2, k2, n2⟩ := storeN ow (i := i) (by omega) X (fun j hj => by have := fp j hj; omega) (n + 1)
      simp (maxDischargeDepth := 8) only [go_sem, hw, so.l, lo.len, hLl, show decide ((i : Int) < (N : Int)) = true from decide_eq_true (by omega), hit, hv'.loadT hgi, lo.iaddrN (i := i) (by omega), lo.loadN' hLi, show decide ((0 : Int) > 0) = false from by decide, wrap_succ (show n ≤ 4611686018427387903 by omega), st2, show (W.w = 0) = False from eq_false (by omega), tmw, tdw]
      obtain ⟨H3, hH3⟩ : ∃ H3, H2 ++ [(0, SBk.cells true [.int .i64 ((i % W.w.toNat : Nat) : Int), .int .i64 ((i / W.w.toNat : Nat) : Int)])] = H3 := ⟨_, rfl⟩
      have k3 : Keep [] H2 H3 := by rw [← hH3]; exact Keep.app _ _ _
      have l3 : H3.length = H2.length + 1 := by rw [← hH3, List.length_append]; rfl
      have ot : Own cellF H3 (.sl (.hp H2.length 0) 0 1 (some 1) 2) ([i].map (cellI W)) := by rw [← hH3]; exact own_new cellF_even H2 [cellI W i] (some 1)
      have o3 : Own natF H3 ov (L.set i (n + 1)) := o2.keep k3 (by simp)
      have kk3 : Keep [] H H3 := (kH.trans' k2 (fun m hm hl => by have := fp m hm; omega)).trans k3
      have hz0 := zc_set L i (n + 1) (by omega) h0 (by omega)
      have hzl := zc_le L
      rw [hH3]
      have st6 := ot.isSl cellF_even
      rw [KL_keep _ _ _ (by simp (maxDischargeDepth := 8) only [go_sem, so.l, st6.l])]
      simp (maxDischargeDepth := 8) only [go_sem]
      refine KL_ind (R := (fun z => ∃ H' v' L n, fin [.t 2] X z = some (v', X.hp H') ∧ Own natF H' v' L ∧ Out N (stI W cl sz) rt N L n ∧ Keep [] H H' ∧ ∀ i ∈ slFp v', X.hl ≤ i))
        (α := List Nat × List Nat × SV × Hp) (fun q => 2 * zc q.1 + q.2.1.length) (fun q => [(1, .ptr (.st X.dep 0) 0), (3, ov), (4, .int .i64 ((n + 1 : Nat) : Int)), (5, .int .i64 (i : Int)), (6, q.2.2.1)]) (fun q => (X.hp q.2.2.2).fr [.cells true [.int .i64 W.w, .int .i64 W.h, v]] none)
        (fun q => Own natF q.2.2.2 ov q.1 ∧ Own cellF q.2.2.2 q.2.2.1 (q.2.1.map (cellI W)) ∧ capL q.2.2.1 = true ∧ (∀ j ∈ slFp q.2.2.1, H.length < j) ∧ Keep [] H q.2.2.2 ∧ H.length < q.2.2.2.length ∧ 2 * zc q.1 + q.2.1.length ≤ 2 * N ∧ ∃ c d, Flo N (stI W cl sz) rt (nbC W cl sz) L i (n + 1) q.1 q.2.1 c d ∧ (∀ e b, e < 8 → nbC W cl sz c e = some b → c ∉ q.2.1 → q.1.getD b 0 ≠ 0))
        ?_ (L.set i (n + 1), [i], .sl (.hp H2.length 0) 0 1 (some 1) 2, H3) ⟨o3, ot, by simp [capL], by simp [slFp]; omega, kk3, by show H.length < H3.length; omega, by show 2 * zc (L.set i (n + 1)) + 1 ≤ 2 * N; omega, i, 0, flo_begin hO hlt hst h0, fun e b _ _ hc => absurd (by simp) hc⟩
      clear o3 ot kk3 st6
      rintro ⟨M, T, tv, Hd⟩ ⟨om, ot, cp, tf, kd, hd1, hmu, c0, d0, hF, hdn⟩ ih2
      dsimp only at om ot cp tf kd hd1 hmu hF hdn ⊢
      have st := ot.isSl cellF_even
      have lt := ot.lies cellF_even
      have htl : (T.map (cellI W)).length = T.length := List.length_map _
      rcases List.eq_nil_or_concat T with rfl | ⟨T', x, rfl⟩
      · simp (maxDischargeDepth := 8) only [go_sem, hw, so.l, st.l, lt.len, htl, show decide ((0 : Int) > 0) = false from by decide, List.length_nil]
        rw [KL_keep _ _ _ (by simp (maxDischargeDepth := 8) only [go_sem, so.l])]
        simp (maxDischargeDepth := 8) only [go_sem, wrap_succ (show i ≤ 4611686018427387903 by omega)]
        have hOut := hF.fin hN hO hlt hst (fun e b he hn => hdn e b he hn (by simp))
        exact ih (i + 1, n + 1, M, Hd) ⟨by dsimp only; omega, om, kd, hd1, hOut, by dsimp only; omega⟩ (by dsimp only; omega)
      · rw [List.concat_eq_append] at *
        have hF2 := hF.pop hdn
        rw [List.map_append, List.map_cons, List.map_nil] at ot lt
        have hTl : (T'.map (cellI W)).length = T'.length := List.length_map _
        obtain ⟨p1, p2, p3, p4⟩ := own_popC ot cp
        rw [hTl] at p1 p2 p3 p4
        have htl2 : (T'.map (cellI W) ++ [cellI W x]).length = T'.length + 1 := by simp
        have hgx : (T'.map (cellI W) ++ [cellI W x])[T'.length]? = some (cellI W x) := by rw [List.getElem?_append_right (by simp)]; simp
        have hmu2 : 2 * zc M + T'.length + 1 ≤ 2 * N := by simp at hmu; omega
        have wT : IntKind.wrap .i64 (((T'.length + 1 : Nat) : Int) - 1) = (T'.length : Int) := by rw [wrap_small (by omega) (by omega)]; omega
        have sp := p2.isSl cellF_even
        simp (maxDischargeDepth := 8) only [go_sem, hw, so.l, st.l, lt.len, htl2, show decide (((T'.length + 1 : Nat) : Int) > 0) = true from decide_eq_true (by omega), wT, lt.iaddrC (i := T'.length) (by omega), lt.loadC hgx, p1]
        rw [KL_keep _ _ _ (by simp (maxDischargeDepth := 8) only [go_sem, so.l, sp.l])]
        simp (maxDischargeDepth := 8) only [go_sem]
        refine KL_ind (R := (fun z => ∃ H' v' L n, fin [.t 2] X z = some (v', X.hp H') ∧ Own natF H' v' L ∧ Out N (stI W cl sz) rt N L n ∧ Keep [] H H' ∧ ∀ i ∈ slFp v', X.hl ≤ i))
          (α := Nat × List Nat × List Nat × SV × Hp) (fun q => 8 - q.1) (fun q => [(1, .ptr (.st X.dep 0) 0), (3, ov), (4, .int .i64 ((n + 1 : Nat) : Int)), (5, .int .i64 (i : Int)), (6, q.2.2.2.1), (7, .ptr (.st X.dep 1) 0), (8, .int .i64 (q.1 : Int))]) (fun q => (X.hp q.2.2.2.2).fr [.cells true [.int .i64 W.w, .int .i64 W.h, v], .cells true [.int .i64 (cellI W x).1, .int .i64 (cellI W x).2]] none)
          (fun q => q.1 ≤ 8 ∧ Own natF q.2.2.2.2 ov q.2.1 ∧ Own cellF q.2.2.2.2 q.2.2.2.1 (q.2.2.1.map (cellI W)) ∧ capL q.2.2.2.1 = true ∧ (∀ j ∈ slFp q.2.2.2.1, H.length < j) ∧ Keep [] H q.2.2.2.2 ∧ H.length < q.2.2.2.2.length ∧ 2 * zc q.2.1 + q.2.2.1.length + 1 ≤ 2 * zc M + (T' ++ [x]).length ∧ Flo N (stI W cl sz) rt (nbC W cl sz) L i (n + 1) q.2.1 q.2.2.1 x q.1)
          ?_ (0, M, T', takeV T'.length tv, Hd) ⟨Nat.zero_le _, om, p2, p4, by rw [p3]; exact tf, kd, hd1, by show 2 * zc M + T'.length + 1 ≤ 2 * zc M + (T' ++ [x]).length; rw [List.length_append, List.length_singleton]; omega, hF2⟩
        clear p2 p4 sp hF2
        rintro ⟨d, M2, T2, tv2, He⟩ ⟨hd8, om2, ot2, cp2, tf2, ke, he1, hmu3, hG⟩ ih3
        dsimp only at hd8 om2 ot2 cp2 tf2 ke he1 hmu3 hG ⊢
        have st2 := ot2.isSl cellF_even
        have lt2 := ot2.lies cellF_even
        by_cases hd9 : d < 8
        · have hve : LiesD boolF (Hm He) v (W.gr cl sz) := hv.keep ke (by simp)
          have hS := fun f e => r_ref08_Ground_Steps (X := (X.hp He).fr f e) hve w1 w2 (hpsub_refl _) (fr_wf (hp_wf hw) f e) (cellI W x).1 (cellI W x).2 (d : Int)
          unfold grV cellV at hS
          have wd := wrap_succ (show d ≤ 4611686018427387903 by omega)
          cases hs : W.steps cl sz (cellI W x).1 (cellI W x).2 (d : Int) with
          | false =>
            simp only [hs, Bool.false_eq_true, if_false] at hS
            simp (maxDischargeDepth := 8) only [go_sem, hw, so.l, st2.l, sv.l, sv.c, sv.k, sv.o, show decide ((d : Int) < 8) = true from decide_eq_true (by omega), hS, wd]
            rw [KL_keep _ _ _ (by simp (maxDischargeDepth := 8) only [go_sem, so.l, st2.l])]
            simp (maxDischargeDepth := 8) only [go_sem]
            have hnb : nbC W cl sz x d = none := by unfold nbC; rw [if_neg (by rw [show W.steps cl sz ((x % W.w.toNat : Nat) : Int) ((x / W.w.toNat : Nat) : Int) (d : Int) = false from hs]; decide)]
            exact ih3 (d + 1, M2, T2, tv2, He) ⟨by dsimp only; omega, om2, ot2, cp2, tf2, ke, he1, hmu3, hG.no (fun b hb => by rw [hnb] at hb; cases hb)⟩ (by dsimp only; omega)
          | true =>
            simp only [hs, if_true] at hS
            obtain ⟨tx, htx⟩ : ∃ tx, (cellI W x).1 + turnX (d : Int) = tx := ⟨_, rfl⟩
            obtain ⟨ty, hty⟩ : ∃ ty, (cellI W x).2 + turnY (d : Int) = ty := ⟨_, rfl⟩
            rw [htx, hty] at hS
            have hsS : W.stands cl sz tx ty = true := by
              have := hs
              simp only [Wd.steps, Bool.and_eq_true, htx, hty] at this
              exact this.1.2
            have b1 := stands_bx7 hsS
            obtain ⟨q1, q2, q3⟩ := ix_in (W := W) w1.1 b1
            have hnb : nbC W cl sz x d = some (ixC W tx ty) := by
              unfold nbC
              rw [if_pos (show W.steps cl sz ((x % W.w.toNat : Nat) : Int) ((x / W.w.toNat : Nat) : Int) (d : Int) = true from hs), ← htx, ← hty]; rfl
            rw [hNn] at q1
            have e6 : ty * W.w = ((ty.toNat * W.w.toNat : Nat) : Int) := by rw [Int.natCast_mul, Int.toNat_of_nonneg (by omega), Int.toNat_of_nonneg (by omega)]
            have e5 : ixC W tx ty = ty.toNat * W.w.toNat + tx.toNat := rfl
            have e7 : IntKind.wrap .i64 (ty * W.w) = ((ty.toNat * W.w.toNat : Nat) : Int) := by rw [e6, wrap_small (by omega) (by omega)]
            have e8 : IntKind.wrap .i64 (((ty.toNat * W.w.toNat : Nat) : Int) + tx) = ((ixC W tx ty : Nat) : Int) := by rw [wrap_small (by omega) (by omega)]; omega
            have lM := om2.lies natF_even
            have hMl := hG.len
            have hgb : M2[ixC W tx ty]? = some (M2.getD (ixC W tx ty) 0) := by rw [List.getD_eq_getElem?_getD, List.getElem?_eq_getElem (by omega)]; rfl
            by_cases hb0 : M2.getD (ixC W tx ty) 0 = 0
            · rw [hb0] at hgb
              obtain ⟨H5, st5, o5, k5, n5⟩ := storeN om2 (i := ixC W tx ty) (by omega) X (fun j hj => by have := fp j hj; omega) (n + 1)
              have kk5 : Keep [] H H5 := ke.trans' k5 (fun m hm hl => by have := fp m hm; omega)
              have ot5 : Own cellF H5 tv2 (T2.map (cellI W)) := ot2.keep k5 (fun j hj hc => by have := tf2 j hj; have := fp j hc; omega)
              obtain ⟨H6, hH6⟩ : ∃ H6, H5 ++ [(0, SBk.cells true [.int .i64 tx, .int .i64 ty])] = H6 := ⟨_, rfl⟩
              have k6 : Keep [] H5 H6 := by rw [← hH6]; exact Keep.app _ _ _
              have y6 : LiesD cellF (Hm H6) (.sl (.hp H5.length 0) 0 1 (some 1) 2) [(tx, ty)] := by rw [← hH6]; exact (own_new cellF_even H5 [(tx, ty)] (some 1)).lies cellF_even
              have l6 : H6.length = H5.length + 1 := by rw [← hH6, List.length_append]; rfl
              obtain ⟨tv3, H7, a7, o7, k7, f7, c7⟩ := appK (ot5.keep k6 (by simp)) y6 cp2 (by rw [List.length_map]; simp; simp at hmu3; omega) X (fun j hj => by have := tf2 j hj; omega)
              simp (maxDischargeDepth := 8) only [go_sem, hw, so.l, st2.l, sv.l, sv.c, sv.k, sv.o, show decide ((d : Int) < 8) = true from decide_eq_true (by omega), hS, wd, e7, e8, lM.iaddrN (i := ixC W tx ty) (by omega), lM.loadN' hgb, show ((0 : Int) == 0) = true from rfl, st5, hH6, a7]
              rw [KL_keep _ _ _ (by simp (maxDischargeDepth := 8) only [go_sem, so.l, (o7.isSl cellF_even).l])]
              simp (maxDischargeDepth := 8) only [go_sem]
              have hcell : cellI W (ixC W tx ty) = (tx, ty) := Prod.ext q2 q3
              have hzs := zc_set M2 (ixC W tx ty) (n + 1) (by omega) hb0 (by omega)
              refine ih3 (d + 1, M2.set (ixC W tx ty) (n + 1), T2 ++ [ixC W tx ty], tv3, H7) ⟨by dsimp only; omega, (o5.keep k6 (by simp)).keep k7 (fun j hj hc => by have := tf2 j hc; have := fp j hj; omega), ?_, c7, fun j hj => ?_, (kk5.trans k6).trans' k7 (fun m hm hl => by have := tf2 m hm; omega), ?_, ?_, hG.yes hN (by omega) hnb hb0⟩ (by dsimp only; omega)
              · dsimp only; rw [List.map_append, List.map_cons, List.map_nil, hcell]; exact o7
              · rcases f7 j hj with h | h
                · exact tf2 j h
                · omega
              · have := k7.1; show H.length < H7.length; omega
              · show 2 * zc (M2.set (ixC W tx ty) (n + 1)) + (T2 ++ [ixC W tx ty]).length + 1 ≤ _
                rw [List.length_append, List.length_singleton]; omega
            · simp (maxDischargeDepth := 8) only [go_sem, hw, so.l, st2.l, sv.l, sv.c, sv.k, sv.o, show decide ((d : Int) < 8) = true from decide_eq_true (by omega), hS, wd, e7, e8, lM.iaddrN (i := ixC W tx ty) (by omega), lM.loadN' hgb, show ((M2.getD (ixC W tx ty) 0 : Int) == 0) = false from beq_eq_false_iff_ne.2 (by omega)]
              rw [KL_keep _ _ _ (by simp (maxDischargeDepth := 8) only [go_sem, so.l, st2.l])]
              simp (maxDischargeDepth := 8) only [go_sem]
              exact ih3 (d + 1, M2, T2, tv2, He) ⟨by dsimp only; omega, om2, ot2, cp2, tf2, ke, he1, hmu3, hG.no (fun b hb => by rw [hnb] at hb; cases hb; exact hb0)⟩ (by dsimp only; omega)
        · have hd0 : d = 8 := by omega
          subst hd0
          simp (maxDischargeDepth := 8) only [go_sem, hw, so.l, st2.l, show decide (((8 : Nat) : Int) < 8) = false from by decide]
          rw [KL_keep _ _ _ (by simp (maxDischargeDepth := 8) only [go_sem, so.l, st2.l])]
          simp (maxDischargeDepth := 8) only [go_sem]
          exact ih2 (M2, T2, tv2, He) ⟨om2, ot2, cp2, tf2, ke, he1, by dsimp only at hmu ⊢; omega, x, 8, hG, fun e b he hn _ => hG.part e b he hn⟩ (by dsimp only at hmu3 ⊢; omega)
  · have ei : i = N := by omega
    subst ei
    simp (maxDischargeDepth := 8) only [go_sem, hw, so.l, lo.len, hLl, show decide ((i : Int) < (i : Int)) = false from decide_eq_false (by omega)]
    rw [hx, if_neg (by omega)]
    exact ⟨Hc, ov, L, n, rfl, ow, hO, kH, fun j hj => by have := fp j hj; omega⟩
theorem canon_mx {N : Nat} {st : Nat → Bool} {R : Nat → Nat → Prop} {f : Nat → Nat} (h : Canon N st R f) : ∀ i, i ≤ N → mxP f i = cntF st R i ∧ (fsP f i).length = cntF st R i := by
  intro i
  induction i with
  | zero => intro _; exact ⟨rfl, rfl⟩
  | succ i ih =>
    intro hi
    obtain ⟨h1, h2⟩ := ih (by omega)
    cases hs : st i with
    | false =>
      have e := (h i (by omega)).1 hs
      rw [cntF_no (fun hf => by have := hf.1; rw [hs] at this; cases this)]
      simp only [mxP, fsP, e, if_neg (Nat.not_lt_zero _)]
      exact ⟨h1, h2⟩
    | true =>
      rcases (h i (by omega)).2 hs with ⟨j, j1, j2, j3, j4⟩ | ⟨j1, j2⟩
      · rw [cntF_no (fun hf => hf.2 j j1 j2 j3)]
        have := le_mxP (f := f) i j j1
        simp only [mxP, fsP, if_neg (show ¬ mxP f i < f i by omega)]
        exact ⟨h1, h2⟩
      · rw [cntF_fst ⟨hs, j1⟩]
        simp only [mxP, fsP, if_pos (show mxP f i < f i by omega)]
        exact ⟨j2, by rw [List.length_append, h2]; rfl⟩
theorem canon_next {N : Nat} {st : Nat → Bool} {R : Nat → Nat → Prop} {f : Nat → Nat} (h : Canon N st R f) {i : Nat} (hi : i < N) (hlt : mxP f i < f i) : f i = mxP f i + 1 := by
  have e := canon_mx h i (by omega)
  cases hs : st i with
  | false => have := (h i hi).1 hs; omega
  | true =>
    rcases (h i hi).2 hs with ⟨j, j1, j2, j3, j4⟩ | ⟨j1, j2⟩
    · have := le_mxP (f := f) i j j1; omega
    · omega
/-- The map of the firsts. -/
def MFst (f : Nat → Nat) (i : Nat) (M : List (Int × Int)) : Prop := ∀ n, n < (fsP f i).length → alGet ((n + 1 : Nat) : Int) M = some (((fsP f i).getD n 0 : Nat) : Int)
/-- The map of the sizes. -/
def MSiz (f : Nat → Nat) (i : Nat) (M : List (Int × Int)) : Prop := ∀ n : Nat, (alGet (n : Int) M).getD 0 = (cnP f n i : Int)
theorem MFst.no {f : Nat → Nat} {i : Nat} {M : List (Int × Int)} (h : MFst f i M) (hn : ¬ mxP f i < f i) : MFst f (i + 1) M := by
  intro n; simp only [fsP, if_neg hn]; exact h n
theorem MFst.yes {N : Nat} {st : Nat → Bool} {R : Nat → Nat → Prop} {f : Nat → Nat} (hc : Canon N st R f) {i : Nat} {M : List (Int × Int)} (h : MFst f i M) (hi : i < N) (hn : mxP f i < f i) : MFst f (i + 1) (alSet (f i : Int) (i : Int) M) := by
  have e := canon_next hc hi hn
  obtain ⟨e1, e2⟩ := canon_mx hc i (by omega)
  intro n
  simp only [fsP, if_pos hn, List.length_append, List.length_singleton]
  intro hl
  rw [alGet_set]
  by_cases en : n = (fsP f i).length
  · rw [if_pos (by omega), en, List.getD_eq_getElem?_getD, List.getElem?_append_right (Nat.le_refl _), Nat.sub_self]; rfl
  · rw [if_neg (by omega), h n (by omega), List.getD_eq_getElem?_getD, List.getD_eq_getElem?_getD, List.getElem?_append_left (by omega)]
theorem MSiz.set {f : Nat → Nat} {i : Nat} {M : List (Int × Int)} (h : MSiz f i M) : MSiz f (i + 1) (alSet (f i : Int) ((cnP f (f i) i + 1 : Nat) : Int) M) := by
  intro n
  rw [alGet_set]
  simp only [cnP]
  by_cases e : n = f i
  · subst e; rw [if_pos rfl, if_pos rfl]; rfl
  · rw [if_neg (by omega), if_neg (fun h => e h.symm)]; exact h n
theorem list_ext0 {A B : List Nat} {N : Nat} (ha : A.length = N) (hb : B.length = N) (h : ∀ i, i < N → A.getD i 0 = B.getD i 0) : A = B := by
  apply List.ext_getElem (by omega)
  intro i h1 h2
  have := h i (by omega)
  rw [List.getD_eq_getElem?_getD, List.getD_eq_getElem?_getD, List.getElem?_eq_getElem h1, List.getElem?_eq_getElem h2] at this
  exact this
theorem labels_of {X : Mem} {v : SV} {W : Wd} {cl sz : Int} {rt : Nat → Nat} {z : Option (SV × Mem)} (hz : RF tb f_ref08_Ground_Labels [grV W.w W.h v] X = z) (hv : LiesD boolF (Hm X.heap) v (W.gr cl sz)) (w1 : 1 ≤ W.w ∧ W.w ≤ 128) (w2 : 1 ≤ W.h ∧ W.h ≤ 128) (hN : NbOk (W.w.toNat * W.h.toNat) (stI W cl sz) rt (nbC W cl sz)) (hw : X.Wf) (hhb : X.hb ≤ X.hl) :
    ∃ H' v' L n, z = some (v', X.hp H') ∧ Own natF H' v' L ∧ Out (W.w.toNat * W.h.toNat) (stI W cl sz) rt (W.w.toNat * W.h.toNat) L n ∧ Keep [] X.heap H' ∧ ∀ i ∈ slFp v', X.hl ≤ i := by
  subst hz; exact r_ref08_Labels hv w1 w2 hN hw hhb
theorem canon_eq {N : Nat} {st : Nat → Bool} {rt : Nat → Nat} {A B : List Nat} (ha : A.length = N) (hb : B.length = N) (h1 : Canon N st (fun x y => rt x = rt y) (fun i => A.getD i 0)) (h2 : Canon N st (fun x y => rt x = rt y) (fun i => B.getD i 0)) : A = B :=
  list_ext0 ha hb (fun i hi => h1.uniq h2 (fun _ _ h => h.symm) (fun _ _ _ h k => h.trans k) (i + 1) i (Nat.lt_succ_self _) hi)
theorem octJ_C (x y a b : Int) : octJ x y a b = octC x y a b := by
  unfold octJ octC octD octI
  rw [absI_eq, absI_eq]
  unfold absJ mnI mxI iB
  (repeat' split) <;> omega
def mtR (p q : Rc) : Bool := meetB p.1 p.2.1 p.2.2.1 p.2.2.2 q.1 q.2.1 q.2.2.1 q.2.2.2
/-- Will a cell do? -/
def willP (W : Wd) (L : List Nat) (T : List Rc) (cl sz f1 f2 c1 c2 : Int) : Bool := decide (0 < atP W L f1 f2) && decide (atP W L f1 f2 = atP W L c1 c2) && !(T.any (mtR (footR cl sz c1 c2)))
theorem LiesD.iaddrR {m : Mem} {v : SV} {l : List Rc} (h : LiesD rectF m v l) {i : Nat} (hi : i < l.length) (k : IntKind) (m' : Mem) : iaddrV 4 v (.int k (i : Int)) m' = some (.ptr (.hp (slN v) (slW v)) (slO v + i * 4), m') := Lies.iaddr h hi k m'
theorem LiesD.loadR {m : Mem} {v : SV} {l : List Rc} (h : LiesD rectF m v l) {i : Nat} {a : Rc} (hi : l[i]? = some a) {X : Mem} (hX : HpSub m X) : X.load (.hp (slN v) (slW v)) (slO v + i * 4) (some 4) = some (rectR a) := LiesD.loadX rectF_even (by decide) h hi hX
theorem r_settle_Will_1 {Y : Mem} (hw : Y.Wf) {d i : Nat} {p : Rc} (hd : d < Y.dep) (hY : Y.get (.st d i) = some (.cells true [.int .i64 p.1, .int .i64 p.2.1, .int .i64 p.2.2.1, .int .i64 p.2.2.2])) (r : Rc) : RV tb (.fn f_settle_Will_1 [] [.ptr (.st d i) 0]) [rectR r] Y = some (.bool (mtR p r), Y) := by
  have hl : Y.load (.st d i) 0 (some 4) = some (rectR p) := by rw [load_get, hY]; rfl
  have hm := fun (m : Mem) (hm : m.Wf) => r_cell_Meet m hm p.1 p.2.1 p.2.2.1 p.2.2.2 r.1 r.2.1 r.2.2.1 r.2.2.2
  unfold meetV rect at hm
  rw [RV_fn]
  show RF tb f_settle_Will_1 [rectR r, .ptr (.st d i) 0] Y = _
  unfold rectR rect at hl ⊢
  rw [RF_go t_settle_Will_1 _ _ rfl]
  simp (maxDischargeDepth := 8) only [go_sem, s_settle_Will_1, hw, hd, hl, hm]
  rfl
theorem r_contains {m : Mem} {v : SV} {T : List Rc} (hT : LiesD rectF m v T) {Y : Mem} (hX : HpSub m Y) (hw : Y.Wf) (hT2 : T.length ≤ 4611686018427387903) {d i : Nat} {p : Rc} (hd : d < Y.dep) (hY : Y.get (.st d i) = some (.cells true [.int .i64 p.1, .int .i64 p.2.1, .int .i64 p.2.2.1, .int .i64 p.2.2.2])) :
    RF tb f_slices_ContainsFunc_api_Rect_api_Rect [v, .fn f_settle_Will_1 [] [.ptr (.st d i) 0]] Y = some (.bool (T.any (mtR p)), Y) := by
  have key : ∀ {Z : Mem}, HpSub m Z → Z.Wf → d < Z.dep → Z.get (.st d i) = some (.cells true [.int .i64 p.1, .int .i64 p.2.1, .int .i64 p.2.2.1, .int .i64 p.2.2.2]) → ∃ n : Int, RF tb f_slices_IndexFunc_api_Rect_api_Rect [v, .fn f_settle_Will_1 [] [.ptr (.st d i) 0]] Z = some (.int .i64 n, Z) ∧ decide (n ≥ 0) = T.any (mtR p) := by
    intro Z hXZ hwZ hdZ hYZ
    have sv := hT.isSl
    have hcl := fun {Q : Mem} (hq : Q.Wf) (h1 : d < Q.dep) (h2 : Q.get (.st d i) = some (.cells true [.int .i64 p.1, .int .i64 p.2.1, .int .i64 p.2.2.1, .int .i64 p.2.2.2])) (r : Rc) => r_settle_Will_1 hq h1 h2 r
    unfold rectR rect at hcl
    have hlv : Bk.lv Z.dep 0 (.st d i) = true := by simp [Bk.lv, hdZ]
    rw [RF_go t_slices_IndexFunc_api_Rect_api_Rect _ _ rfl]
    simp (maxDischargeDepth := 8) only [go_sem, s_slices_IndexFunc_api_Rect_api_Rect, hwZ, hT.len, sv.l]
    rw [KL_keep _ _ _ (by simp (maxDischargeDepth := 8) only [go_sem, sv.l, hlv])]
    simp (maxDischargeDepth := 8) only [go_sem]
    refine KL_ind (R := fun z => ∃ n, fin [.t 4] Z z = some (.int .i64 n, Z) ∧ decide (n ≥ 0) = T.any (mtR p))
      (α := Nat) (fun q => T.length - q) (fun q => [(0, v), (1, .fn f_settle_Will_1 [] [.ptr (.st d i) 0]), (7, .i (T.length : Int)), (8, .int .i64 (q : Int))]) (fun _ => Z.fr [] none)
      (fun q => q ≤ T.length ∧ (T.drop q).any (mtR p) = T.any (mtR p)) ?_ 0 ⟨Nat.zero_le _, rfl⟩
    rintro q ⟨hq, hd'⟩ ih
    by_cases hlt : q < T.length
    · obtain ⟨r, hr⟩ : ∃ r, T[q]? = some r := ⟨_, List.getElem?_eq_getElem hlt⟩
      have hg : (Z.fr [] none).get (.st d i) = some (.cells true [.int .i64 p.1, .int .i64 p.2.1, .int .i64 p.2.2.1, .int .i64 p.2.2.2]) := by simp (maxDischargeDepth := 8) only [go_sem, hdZ, hYZ]
      have hcl := r_settle_Will_1 (fr_wf hwZ [] none) (d := d) (i := i) (by show d < Z.dep + 1; omega) hg r
      unfold rectR rect at hcl
      have hdr : T.drop q = r :: T.drop (q + 1) := by
        rw [List.drop_eq_getElem_cons hlt]
        rw [List.getElem?_eq_getElem hlt] at hr
        rw [Option.some.inj hr]
      rw [hdr, List.any_cons] at hd'
      have hld := LiesD.loadR hT hr (X := Z.fr [] none) (by simp (maxDischargeDepth := 8) only [go_sem, hXZ])
      unfold rectR rect at hld
      cases hmt : mtR p r with
      | true =>
        rw [hmt] at hcl hd'
        simp (maxDischargeDepth := 8) only [go_sem, hwZ, hlv, show decide ((q : Int) < (T.length : Int)) = true from decide_eq_true (by omega), LiesD.iaddrR hT hlt, hld, hcl, sv.l]
        refine ⟨_, rfl, ?_⟩
        rw [decide_eq_true (by omega), ← hd', Bool.true_or]
      | false =>
        rw [hmt] at hcl hd'
        simp (maxDischargeDepth := 8) only [go_sem, hwZ, hlv, show decide ((q : Int) < (T.length : Int)) = true from decide_eq_true (by omega), LiesD.iaddrR hT hlt, hld, hcl, sv.l, wrap_succ (show q ≤ 4611686018427387903 by omega)]
        rw [KL_keep _ _ _ (by simp (maxDischargeDepth := 8) only [go_sem, sv.l, hlv])]
        simp (maxDischargeDepth := 8) only [go_sem]
        exact ih (q + 1) ⟨by omega, by rw [← hd', Bool.false_or]⟩ (by omega)
    · have : q = T.length := by omega
      subst this
      rw [List.drop_of_length_le (Nat.le_refl _)] at hd'
      simp (maxDischargeDepth := 8) only [go_sem, hwZ, hlv, sv.l, show decide ((T.length : Int) < (T.length : Int)) = false from decide_eq_false (by omega)]
      refine ⟨_, rfl, ?_⟩
      rw [← hd']; rfl
  obtain ⟨n, k1, k2⟩ := key (Z := Y.fr [] none) (by simp (maxDischargeDepth := 8) only [go_sem, hX]) (fr_wf hw _ _) (by show d < Y.dep + 1; omega) (by simp (maxDischargeDepth := 8) only [go_sem, hd, hY])
  rw [RF_go t_slices_ContainsFunc_api_Rect_api_Rect _ _ rfl]
  simp (maxDischargeDepth := 8) only [go_sem, s_slices_ContainsFunc_api_Rect_api_Rect, hw, k1, k2]
theorem r_settle_Will {m : Mem} {k : Nat} {W : Wd} {L : List Nat} {F : List (Int × Int)} {Z : List Nat} (h : PA m k W L F Z) {v : SV} {T : List Rc} (hT : LiesD rectF m v T) (hT2 : T.length ≤ 4611686018427387903) {X : Mem} (hX : HpSub m X) (hw : X.Wf) (wv : SV) (cl sz f1 f2 c1 c2 : Int) :
    RF tb f_settle_Will [wv, .ptr (.hp k 0) 0, .agg [.int .i64 cl, .int .i64 sz], .agg [.int .i64 f1, .int .i64 f2], .agg [.int .i64 c1, .int .i64 c2], v] X = some (.bool (willP W L T cl sz f1 f2 c1 c2), X) := by
  have hJ := fun {Y : Mem} (hY : HpSub m Y) (hwY : Y.Wf) => r_parts_Joined h hY hwY f1 f2 c1 c2
  unfold cellV at hJ
  have hF := fun {Y : Mem} (hwY : Y.Wf) => r_class_Foot Y hwY cl sz c1 c2
  have sv := hT.isSl
  rw [RF_go t_settle_Will _ _ rfl]
  unfold willP
  cases hj : (decide (0 < atP W L f1 f2) && decide (atP W L f1 f2 = atP W L c1 c2)) with
  | false =>
    simp (maxDischargeDepth := 8) only [go_sem, s_settle_Will, hw, hX, hJ, hj]
    try rfl
  | true =>
    have hc := fun {Y : Mem} (hY : HpSub m Y) (hwY : Y.Wf) => r_contains hT hY hwY hT2 (p := footR cl sz c1 c2) (d := X.dep) (i := 3)
    unfold rectR rect at hF
    simp (maxDischargeDepth := 8) only [go_sem, s_settle_Will, hw, hX, hJ, hj, hF, hc, sv.l, sv.c, sv.k, sv.o]
theorem beq_nat (p q : Nat) : (((p : Nat) : Int) == ((q : Nat) : Int)) = decide (p = q) := by
  by_cases e : p = q
  · rw [e, decide_eq_true rfl]; exact beq_self_eq_true _
  · rw [decide_eq_false e]; exact beq_eq_false_iff_ne.2 (by omega)
section
variable {m : Mem} {gv lv : SV} {W : Wd} {cl sz : Int} {rt : Nat → Nat} {cf : Nat → Int × Int} {L : List Nat} {F : List (Int × Int)} {Z : List Nat} {num : Nat → Nat}
theorem r_ref19_joined (hg : LiesD boolF m gv (W.gr cl sz)) (hl : LiesD natF m lv L) (w1 : 1 ≤ W.w ∧ W.w ≤ 128) (w2 : 1 ≤ W.h ∧ W.h ≤ 128) (hB : Lab (W.w.toNat * W.h.toNat) (stI W cl sz) rt cf (W.w.toNat * W.h.toNat) L F Z num) {X : Mem} (hX : HpSub m X) (hw : X.Wf) (f1 f2 c1 c2 : Int) :
    RF tb f_ref19_joined [grV W.w W.h gv, lv, .agg [.int .i64 f1, .int .i64 f2], .agg [.int .i64 c1, .int .i64 c2]] X = some (.bool (decide (0 < atP W L f1 f2) && decide (atP W L f1 f2 = atP W L c1 c2)), X) := by
  have hS := fun {Y : Mem} (hY : HpSub m Y) (hwY : Y.Wf) (x y : Int) => r_ref08_Ground_Stands hg w1 w2 hY hwY x y
  unfold grV cellV at hS
  have sg := hg.isSl
  have hlen : L.length = W.w.toNat * W.h.toNat := hB.len
  rw [RF_go t_ref19_joined _ _ rfl]
  have a1 := at_st w1 w2 hB f1 f2
  have a2 := at_st w1 w2 hB c1 c2
  have key : ∀ {x y : Int}, W.stands cl sz x y = true → (IntKind.wrap .i64 (y * W.w) = ((y.toNat * W.w.toNat : Nat) : Int)) ∧ (IntKind.wrap .i64 (((y.toNat * W.w.toNat : Nat) : Int) + x) = ((ixC W x y : Nat) : Int)) ∧ ixC W x y < L.length ∧ atP W L x y = L.getD (ixC W x y) 0 := by
    intro x y hs
    have b1 := stands_bx7 hs
    have e4 : W.w.toNat * (y.toNat + 1) ≤ W.w.toNat * W.h.toNat := Nat.mul_le_mul_left _ (by omega)
    have e5 : W.w.toNat * W.h.toNat ≤ 128 * 128 := Nat.mul_le_mul (by omega) (by omega)
    rw [Nat.mul_add, Nat.mul_one, Nat.mul_comm] at e4
    have e6 : y * W.w = ((y.toNat * W.w.toNat : Nat) : Int) := by rw [Int.natCast_mul, Int.toNat_of_nonneg (by omega), Int.toNat_of_nonneg (by omega)]
    refine ⟨by rw [e6, wrap_small (by omega) (by omega)], by unfold ixC; rw [wrap_small (by omega) (by omega)]; omega, by rw [hlen]; exact (ix_in (W := W) w1.1 (by omega)).1, ?_⟩
    unfold atP
    rw [if_pos (show hasB 0 0 W.w W.h x y = true from (has_w w1 w2 (W := W)).2 (by omega))]
    rfl
  cases hf : W.stands cl sz f1 f2 with
  | false =>
    rw [hf] at a1
    simp (maxDischargeDepth := 8) only [go_sem, s_ref19_joined, grV, hw, hX, hS, hf, sg.l, sg.c, sg.k, sg.o, a1]
    try rfl
  | true =>
    rw [hf] at a1
    obtain ⟨k1, k2, k3, k4⟩ := key hf
    cases hc : W.stands cl sz c1 c2 with
    | false =>
      rw [hc] at a2
      have : ¬ atP W L f1 f2 = atP W L c1 c2 := fun e => by
        rw [← e, a1] at a2; cases a2
      simp (maxDischargeDepth := 8) only [go_sem, s_ref19_joined, grV, hw, hX, hS, hf, hc, sg.l, sg.c, sg.k, sg.o, a1, decide_eq_false this]
      try rfl
    | true =>
      obtain ⟨j1, j2, j3, j4⟩ := key hc
      have g1 : L[ixC W f1 f2]? = some (L.getD (ixC W f1 f2) 0) := by rw [List.getD_eq_getElem?_getD, List.getElem?_eq_getElem k3]; rfl
      have g2 : L[ixC W c1 c2]? = some (L.getD (ixC W c1 c2) 0) := by rw [List.getD_eq_getElem?_getD, List.getElem?_eq_getElem j3]; rfl
      simp (maxDischargeDepth := 8) only [go_sem, s_ref19_joined, grV, hw, hX, hS, hf, hc, sg.l, sg.c, sg.k, sg.o, a1, k1, k2, j1, j2, hl.iaddrN k3, hl.iaddrN j3, hl.loadN' g1, hl.loadN' g2, beq_nat, k4, j4]
      rw [k4] at a1
      rw [a1, Bool.true_and]
theorem r_ref19_will (hg : LiesD boolF m gv (W.gr cl sz)) (hl : LiesD natF m lv L) (w1 : 1 ≤ W.w ∧ W.w ≤ 128) (w2 : 1 ≤ W.h ∧ W.h ≤ 128) (hB : Lab (W.w.toNat * W.h.toNat) (stI W cl sz) rt cf (W.w.toNat * W.h.toNat) L F Z num) {v : SV} {T : List Rc} (hT : LiesD rectF m v T) (hT2 : T.length ≤ 4611686018427387903) {X : Mem} (hX : HpSub m X) (hw : X.Wf) (f1 f2 c1 c2 : Int) :
    RF tb f_ref19_will [grV W.w W.h gv, lv, .agg [.int .i64 cl, .int .i64 sz], .agg [.int .i64 f1, .int .i64 f2], .agg [.int .i64 c1, .int .i64 c2], v] X = some (.bool (willP W L T cl sz f1 f2 c1 c2), X) := by
  have hJ := fun {Y : Mem} (hY : HpSub m Y) (hwY : Y.Wf) => r_ref19_joined hg hl w1 w2 hB hY hwY f1 f2 c1 c2
  have hF := fun {Y : Mem} (hwY : Y.Wf) => r_ref06_Foot Y hwY cl sz c1 c2
  have sg := hg.isSl
  have sl := hl.isSl
  have sv := hT.isSl
  unfold grV at hJ
  unfold rectR rect at hF
  rw [RF_go t_ref19_will _ _ rfl]
  unfold willP
  cases hj : (decide (0 < atP W L f1 f2) && decide (atP W L f1 f2 = atP W L c1 c2)) with
  | false =>
    simp (maxDischargeDepth := 8) only [go_sem, s_ref19_will, grV, hw, hX, hJ, hj, sg.l, sg.c, sg.k, sg.o]
    try rfl
  | true =>
    simp (maxDischargeDepth := 8) only [go_sem, s_ref19_will, grV, hw, hX, hJ, hj, sg.l, sg.c, sg.k, sg.o, sv.l]
    rw [KL_keep _ _ _ (by simp (maxDischargeDepth := 8) only [go_sem, sv.l])]
    simp (maxDischargeDepth := 8) only [go_sem]
    refine KL_indE (α := Nat) (fun q => T.length - q) (fun q => [(5, v), (8, .ptr (.st X.dep 1) 0), (10, .ptr (.st X.dep 3) 0), (13, .int .i64 (q : Int))]) (fun _ => X.fr [.cells true [.int .i64 W.w, .int .i64 W.h, gv], .cells true [.int .i64 cl, .int .i64 sz], .cells true [.int .i64 f1, .int .i64 f2], .cells true [.int .i64 c1, .int .i64 c2]] none)
      (fun q => q ≤ T.length ∧ (T.drop q).any (mtR (footR cl sz c1 c2)) = T.any (mtR (footR cl sz c1 c2))) ?_ 0 ⟨Nat.zero_le _, rfl⟩
    rintro q ⟨hq, hd'⟩ ih
    by_cases hlt : q < T.length
    · obtain ⟨r, hr⟩ : ∃ r, T[q]? = some r := ⟨_, List.getElem?_eq_getElem hlt⟩
      have hdr : T.drop q = r :: T.drop (q + 1) := by
        rw [List.drop_eq_getElem_cons hlt]
        rw [List.getElem?_eq_getElem hlt] at hr
        rw [Option.some.inj hr]
      rw [hdr, List.any_cons] at hd'
      have hm := fun (m : Mem) (hm : m.Wf) => r_ref03_Meet m hm (footR cl sz c1 c2).1 (footR cl sz c1 c2).2.1 (footR cl sz c1 c2).2.2.1 (footR cl sz c1 c2).2.2.2 r.1 r.2.1 r.2.2.1 r.2.2.2
      unfold meetV rect at hm
      have hld := fun {Y : Mem} (hY : HpSub m Y) => LiesD.loadR hT hr hY
      unfold rectR rect at hld
      have em : mtR (footR cl sz c1 c2) r = meetB (footR cl sz c1 c2).1 (footR cl sz c1 c2).2.1 (footR cl sz c1 c2).2.2.1 (footR cl sz c1 c2).2.2.2 r.1 r.2.1 r.2.2.1 r.2.2.2 := rfl
      rw [em] at hd'
      cases hmt : meetB (footR cl sz c1 c2).1 (footR cl sz c1 c2).2.1 (footR cl sz c1 c2).2.2.1 (footR cl sz c1 c2).2.2.2 r.1 r.2.1 r.2.2.1 r.2.2.2 with
      | true =>
        rw [hmt] at hd'
        simp only [hmt] at hm
        simp (maxDischargeDepth := 8) only [go_sem, hw, hX, hF, hT.len, show decide ((q : Int) < (T.length : Int)) = true from decide_eq_true (by omega), LiesD.iaddrR hT hlt, hld, hm, sv.l]
        rw [← hd']; rfl
      | false =>
        rw [hmt] at hd'
        simp only [hmt] at hm
        simp (maxDischargeDepth := 8) only [go_sem, hw, hX, hF, hT.len, show decide ((q : Int) < (T.length : Int)) = true from decide_eq_true (by omega), LiesD.iaddrR hT hlt, hld, hm, sv.l, wrap_succ (show q ≤ 4611686018427387903 by omega)]
        rw [KL_keep _ _ _ (by simp (maxDischargeDepth := 8) only [go_sem, sv.l])]
        simp (maxDischargeDepth := 8) only [go_sem]
        exact ih (q + 1) ⟨by omega, by rw [← hd', Bool.false_or]⟩ (by omega)
    · have : q = T.length := by omega
      subst this
      rw [List.drop_of_length_le (Nat.le_refl _)] at hd'
      simp (maxDischargeDepth := 8) only [go_sem, hw, hX, hT.len, sv.l, show decide ((T.length : Int) < (T.length : Int)) = false from decide_eq_false (by omega)]
      rw [← hd']; rfl
end
abbrev CC := Int × Int
def nearS (d : CC → Int) (p : CC → Bool) (o : Option CC) (c : CC) : Option CC :=
  if (p c && (match o with | none => true | some b => decide (d c < d b))) = true then some c else o
def nearF (d : CC → Int) (p : CC → Bool) (l : List CC) : Option CC := l.foldl (nearS d p) none
theorem nearF_snoc (d : CC → Int) (p : CC → Bool) (l : List CC) (c : CC) : nearF d p (l ++ [c]) = nearS d p (nearF d p l) c := by
  unfold nearF; rw [List.foldl_append]; rfl
/-- What Nearest tells. -/
def nearV (o : Option CC) : SV := match o with | none => .tup [.agg [.int .i64 0, .int .i64 0], .int .i64 4] | some b => .tup [.agg [.int .i64 b.1, .int .i64 b.2], .int .i64 0]
def nearO (W : Wd) (L : List Nat) (T : List Rc) (cl sz f1 f2 t1 t2 : Int) : Option CC := nearF (fun c => octC t1 t2 c.1 c.2) (fun c => willP W L T cl sz f1 f2 c.1 c.2) (cellsP 0 0 W.w W.h)
section
variable {gv : SV} {W : Wd} {cl sz : Int} {rt : Nat → Nat} {cf : Nat → Int × Int} {L : List Nat} {F : List (Int × Int)} {Z : List Nat} {num : Nat → Nat}
end
def farO (d : CC → Int) (o : Option CC) : Int := match o with | none => -1 | some b => d b
abbrev stN (X : Mem) (p : WP) (k : Nat) (cl sz f1 f2 t1 t2 : Int) (v : SV) (hl0 : Nat) (H1 : Hp) (o : Option CC) (st : LoopState) : Mem :=
  (X.hp H1).fr [.cells true [.ptr (.hp p.k 0) 0], .cells true [.ptr (.hp k 0) 0], .cells true [.int .i64 cl, .int .i64 sz], .cells true [.int .i64 f1, .int .i64 f2], .cells true [.int .i64 t1, .int .i64 t2], .cells true [v], .cells true [.int .i64 0, .int .i64 0],
    .cells true [.int .i64 (o.getD (0, 0)).1, .int .i64 (o.getD (0, 0)).2], .cells true [.int .i64 (farO (fun c => octC t1 t2 c.1 c.2) o)],
    .loop ⟨st, none, [(6, .ptr (.st X.dep 0) 0), (7, .ptr (.st X.dep 1) 0), (8, .ptr (.st X.dep 2) 0), (9, .ptr (.st X.dep 3) 0), (10, .ptr (.st X.dep 4) 0), (11, .ptr (.st X.dep 5) 0), (12, .ptr (.st X.dep 6) 0), (14, .ptr (.st X.dep 7) 0), (15, .ptr (.st X.dep 8) 0), (30, .fn f_cell_Cells_1 [] [.ptr (.hp hl0 0) 0])], [31], s_settle_Nearest_p5, s_settle_Nearest_p9⟩] none
theorem r_settle_Nearest {X : Mem} {p : WP} {k : Nat} {W : Wd} {L : List Nat} {F : List (Int × Int)} {Z : List Nat} (hW : WorldAt (Hm X.heap) p W) (h : PA (Hm X.heap) k W L F Z) {v : SV} {T : List Rc} (hT : LiesD rectF (Hm X.heap) v T) (hT2 : T.length ≤ 4611686018427387903) (hw : X.Wf) (hhb : X.hb ≤ X.hl) (cl sz f1 f2 t1 t2 : Int) :
    RF tb f_settle_Nearest [.ptr (.hp p.k 0) 0, .ptr (.hp k 0) 0, .agg [.int .i64 cl, .int .i64 sz], .agg [.int .i64 f1, .int .i64 f2], .agg [.int .i64 t1, .int .i64 t2], v] X = some (if mayS cl sz = true ∧ nearC t1 t2 = true then nearV (nearO W L T cl sz f1 f2 t1 t2) else .tup [.agg [.int .i64 0, .int .i64 0], .int .i64 1], X) := by
  rw [RF_go t_settle_Nearest _ _ rfl, push_hp]
  generalize hH : X.heap = H at *
  have hHl : X.hl = H.length := by rw [← hH]; rfl
  have sv := hT.isSl
  cases hm : mayS cl sz with
  | false =>
    rw [if_neg (by simp)]
    simp (maxDischargeDepth := 8) only [go_sem, s_settle_Nearest, hw, hH, r_class_May, hm, sv.l, sv.c, sv.k, sv.o]
  | true =>
  cases hn : nearC t1 t2 with
  | false =>
    rw [if_neg (by simp)]
    simp (maxDischargeDepth := 8) only [go_sem, s_settle_Nearest, hw, hH, r_class_May, hm, r_cell_Near, hn, sv.l, sv.c, sv.k, sv.o]
  | true =>
  rw [if_pos ⟨rfl, rfl⟩]
  simp (maxDischargeDepth := 8) only [go_sem, s_settle_Nearest, hw, hH, r_class_May, hm, r_cell_Near, hn, sv.l, sv.c, sv.k, sv.o, r_grid_World_All hW, rect, r_cell_Cells]
  obtain ⟨H1, hH1⟩ : ∃ H1, H ++ [(0, SBk.cells true [.int .i64 0, .int .i64 0, .int .i64 W.w, .int .i64 W.h])] = H1 := ⟨_, rfl⟩
  have k1 : Keep [] H H1 := by rw [← hH1]; exact Keep.app _ _ _
  have l1 : H1.length = H.length + 1 := by rw [← hH1, List.length_append]; rfl
  have b1 : hget H1 H.length 0 = some (.cells true [.int .i64 0, .int .i64 0, .int .i64 W.w, .int .i64 W.h]) := by rw [← hH1]; exact hget_new0 0 _
  rw [hH1]
  have hP1 := h.sub k1.sub
  have hT1 := hT.keep k1 (by simp)
  have hWl := fun {Y : Mem} (hY : HpSub (Hm H1) Y) (hwY : Y.Wf) (c1 c2 : Int) => r_settle_Will hP1 hT1 hT2 hY hwY (.ptr (.hp p.k 0) 0) cl sz f1 f2 c1 c2
  generalize hz : RF tb f_cell_Cells_1 _ _ = z
  refine cells_rangeZ (M := stN X p k cl sz f1 f2 t1 t2 v H.length H1 none .ready) (d := X.dep + 1) hz 0 0 W.w W.h (fun M1 kk m u => m = stN X p k cl sz f1 f2 t1 t2 v H.length H1 (nearF (fun c => octC t1 t2 c.1 c.2) (fun c => willP W L T cl sz f1 f2 c.1 c.2) ((cellsP 0 0 W.w W.h).take kk)) .ready ∧ u = none) (fun _ _ _ _ => False) (Nat.lt_succ_self _) ?_ ⟨rfl, rfl⟩ ?_ ?_
  · exact ⟨rfl, by simp (maxDischargeDepth := 8) only [go_sem, hw], b1⟩
  · rintro kk a b m u hk ⟨rfl, rfl⟩
    generalize ho : nearF (fun c => octC t1 t2 c.1 c.2) (fun c => willP W L T cl sz f1 f2 c.1 c.2) ((cellsP 0 0 W.w W.h).take kk) = o
    have hnx : nearF (fun c => octC t1 t2 c.1 c.2) (fun c => willP W L T cl sz f1 f2 c.1 c.2) ((cellsP 0 0 W.w W.h).take (kk + 1)) = nearS (fun c => octC t1 t2 c.1 c.2) (fun c => willP W L T cl sz f1 f2 c.1 c.2) o (a, b) := by
      rw [List.take_add_one, hk, ← ho]; exact nearF_snoc _ _ _ _
    refine ⟨stN X p k cl sz f1 f2 t1 t2 v H.length H1 (nearS (fun c => octC t1 t2 c.1 c.2) (fun c => willP W L T cl sz f1 f2 c.1 c.2) o (a, b)) .ready, none, true, ?_, ⟨rfl, by simp (maxDischargeDepth := 8) only [go_sem, hw], b1⟩, .inl rfl, fun _ => ⟨by rw [hnx], rfl⟩, fun h => (by cases h)⟩
    have hoc := octC_in t1 t2 a b
    unfold nearS
    intro fs e
    rw [RV_go (l := ⟨.ready, none, _, _, _, _⟩) _ _ _ (by simp (maxDischargeDepth := 8) only [go_sem, stN]; rfl) rfl rfl (by simp (maxDischargeDepth := 8) only [go_sem, stN, hw])]
    cases o with
    | none =>
      cases hwl : willP W L T cl sz f1 f2 a b with
      | true =>
        simp (maxDischargeDepth := 8) only [go_sem, stN, hw, r_cell_Octile, farO, show decide ((-1 : Int) < 0) = true from by decide, hWl, hwl, Option.getD_none]
      | false =>
        simp (maxDischargeDepth := 8) only [go_sem, stN, hw, r_cell_Octile, farO, show decide ((-1 : Int) < 0) = true from by decide, hWl, hwl, Option.getD_none]
    | some b0 =>
      have hob := octC_in t1 t2 b0.1 b0.2
      have hf0 : decide (octC t1 t2 b0.1 b0.2 < 0) = false := decide_eq_false (by omega)
      cases hlt : decide (octC t1 t2 a b < octC t1 t2 b0.1 b0.2) with
      | false =>
        have e1 : (willP W L T cl sz f1 f2 a b && false) = false := Bool.and_false _
        simp (maxDischargeDepth := 8) only [go_sem, stN, hw, r_cell_Octile, farO, hf0, hlt, Option.getD_some, e1]
      | true =>
        cases hwl : willP W L T cl sz f1 f2 a b with
        | true =>
          simp (maxDischargeDepth := 8) only [go_sem, stN, hw, r_cell_Octile, farO, hf0, hlt, hWl, hwl, Option.getD_some]
        | false =>
          simp (maxDischargeDepth := 8) only [go_sem, stN, hw, r_cell_Octile, farO, hf0, hlt, hWl, hwl, Option.getD_some]
  · rintro M' U hz' - - (⟨rfl, rfl⟩ | ⟨_, _, hf⟩)
    · subst hz'
      have hXX : X.hp (H1.take X.hl) = X := by rw [← hH1, hHl, List.take_left, ← hH]; rfl
      rw [List.take_length]
      unfold nearO
      generalize nearF (fun c => octC t1 t2 c.1 c.2) (fun c => willP W L T cl sz f1 f2 c.1 c.2) (cellsP 0 0 W.w W.h) = o
      cases o with
      | none =>
        simp (maxDischargeDepth := 8) only [go_sem, stN, hw, farO, show decide ((-1 : Int) < 0) = true from by decide]
        rw [hXX]; rfl
      | some b0 =>
        have hob := octC_in t1 t2 b0.1 b0.2
        simp (maxDischargeDepth := 8) only [go_sem, stN, hw, farO, show decide (octC t1 t2 b0.1 b0.2 < 0) = false from decide_eq_false (by omega), Option.getD_some]
        rw [hXX]; rfl
    · exact hf.elim
section
variable {gv : SV} {W : Wd} {cl sz : Int} {rt : Nat → Nat} {cf : Nat → Int × Int} {L : List Nat} {F : List (Int × Int)} {Z : List Nat} {num : Nat → Nat}
theorem r_ref19_Nearest {X : Mem} (hg : LiesD boolF (Hm X.heap) gv (W.gr cl sz)) (w1 : 1 ≤ W.w ∧ W.w ≤ 128) (w2 : 1 ≤ W.h ∧ W.h ≤ 128) (hB : Lab (W.w.toNat * W.h.toNat) (stI W cl sz) rt cf (W.w.toNat * W.h.toNat) L F Z num) (hr : ∀ x y, x < W.w.toNat * W.h.toNat → y < W.w.toNat * W.h.toNat → (rt x = rt y ↔ Lnk (EL W cl sz (W.w.toNat * W.h.toNat)) x y)) {v : SV} {T : List Rc} (hT : LiesD rectF (Hm X.heap) v T) (hT2 : T.length ≤ 4611686018427387903) (hw : X.Wf) (hhb : X.hb ≤ X.hl) (f1 f2 t1 t2 : Int) :
    ∃ H', RF tb f_ref19_Nearest [grV W.w W.h gv, .agg [.int .i64 cl, .int .i64 sz], .agg [.int .i64 f1, .int .i64 f2], .agg [.int .i64 t1, .int .i64 t2], v] X = some (if mayS cl sz = true ∧ nearC t1 t2 = true then nearV (nearO W L T cl sz f1 f2 t1 t2) else .tup [.agg [.int .i64 0, .int .i64 0], .int .i64 1], X.hp H') ∧ Keep [] X.heap H' := by
  rw [RF_go t_ref19_Nearest _ _ rfl, push_hp]
  generalize hH : X.heap = H at *
  have hHl : X.hl = H.length := by rw [← hH]; rfl
  have sv := hT.isSl
  have sg := hg.isSl
  cases hm : mayS cl sz with
  | false =>
    rw [if_neg (by simp)]
    simp (maxDischargeDepth := 8) only [go_sem, s_ref19_Nearest, grV, hw, hH, r_ref06_May, hm, sv.l, sv.c, sv.k, sv.o, sg.l, sg.c, sg.k, sg.o]
    exact ⟨X.heap, rfl, by rw [hH]; exact Keep.refl _ _⟩
  | true =>
  cases hn : nearC t1 t2 with
  | false =>
    rw [if_neg (by simp)]
    simp (maxDischargeDepth := 8) only [go_sem, s_ref19_Nearest, grV, hw, hH, r_ref06_May, hm, r_ref03_Near, hn, sv.l, sv.c, sv.k, sv.o, sg.l, sg.c, sg.k, sg.o]
    exact ⟨X.heap, rfl, by rw [hH]; exact Keep.refl _ _⟩
  | true =>
  rw [if_pos ⟨rfl, rfl⟩]
  simp (maxDischargeDepth := 8) only [go_sem, s_ref19_Nearest, grV, hw, hH, r_ref06_May, hm, r_ref03_Near, hn, sv.l, sv.c, sv.k, sv.o, sg.l, sg.c, sg.k, sg.o]
  generalize hz : RF tb f_ref08_Ground_Labels _ _ = z
  obtain ⟨H2, lv, Lr, nn, rfl, ol, hOut, k2, fl⟩ := labels_of (rt := rt) (cl := cl) (sz := sz) (W := W) hz hg w1 w2 (nb_ok w1 w2 hr) (by simp (maxDischargeDepth := 8) only [go_sem, hw]) (by show X.hb ≤ H.length; omega)
  change Keep [] H H2 at k2
  obtain rfl := canon_eq hOut.len hB.len hOut.canon hB.ca
  have hWl := fun {Y : Mem} (hY : HpSub (Hm H2) Y) (hwY : Y.Wf) (c1 c2 : Int) => r_ref19_will (hg.keep k2 (by simp)) (ol.lies natF_even) w1 w2 hB (hT.keep k2 (by simp)) hT2 hY hwY f1 f2 c1 c2
  unfold grV at hWl
  have sl := ol.isSl natF_even
  simp (maxDischargeDepth := 8) only [go_sem, hw, hWl, sg.l, sg.c, sg.k, sg.o]
  obtain ⟨wn, hwn⟩ : ∃ wn, W.w.toNat = wn := ⟨_, rfl⟩
  obtain ⟨hn', hhn⟩ : ∃ hn', W.h.toNat = hn' := ⟨_, rfl⟩
  have hWw : W.w = (wn : Int) := by omega
  have hWh : W.h = (hn' : Int) := by omega
  have clen : (cellsP 0 0 W.w W.h).length = wn * hn' := by unfold cellsP; rw [if_pos (may_all7 w1 w2), List.length_map, List.length_range, hwn, hhn]
  have cat : ∀ x y, x < wn → y < hn' → (cellsP 0 0 W.w W.h)[wn * y + x]? = some ((x : Int), (y : Int)) := fun x y hx hy => by
    have hlt : wn * y + x < wn * hn' := by
      have : wn * (y + 1) ≤ wn * hn' := Nat.mul_le_mul_left _ hy
      rw [Nat.mul_add, Nat.mul_one] at this; omega
    unfold cellsP
    rw [if_pos (may_all7 w1 w2), List.getElem?_map, hwn, hhn, List.getElem?_range hlt, Option.map_some]
    have e1 : (wn * y + x) % wn = x := by rw [Nat.mul_add_mod, Nat.mod_eq_of_lt hx]
    have e2 : (wn * y + x) / wn = y := by rw [Nat.mul_add_div (by omega), Nat.div_eq_of_lt hx, Nat.add_zero]
    rw [e1, e2, Int.zero_add, Int.zero_add]
  obtain ⟨cs, hcs⟩ : ∃ cs, cellsP 0 0 W.w W.h = cs := ⟨_, rfl⟩
  obtain ⟨d, hd⟩ : ∃ d : CC → Int, d = (fun c => octC t1 t2 c.1 c.2) := ⟨_, rfl⟩
  obtain ⟨pr, hpr⟩ : ∃ pr : CC → Bool, pr = (fun c => willP W Lr T cl sz f1 f2 c.1 c.2) := ⟨_, rfl⟩
  have hNe : nearO W Lr T cl sz f1 f2 t1 t2 = nearF d pr cs := by rw [hd, hpr, ← hcs]; rfl
  rw [hNe]
  rw [hcs] at clen cat
  have hdv : ∀ c, d c = octC t1 t2 c.1 c.2 := fun c => by rw [hd]
  have hpv : ∀ c1 c2, willP W Lr T cl sz f1 f2 c1 c2 = pr (c1, c2) := fun c1 c2 => by rw [hpr]
  simp only [hpv] at hWl
  have hoct := fun (m : Mem) (hm : m.Wf) (a b : Int) => r_ref03_Octile m hm t1 t2 a b
  simp only [octJ_C] at hoct
  rw [KL_keep _ _ _ (by simp (maxDischargeDepth := 8) only [go_sem, sv.l, sl.l])]
  simp (maxDischargeDepth := 8) only [go_sem]
  refine KL_ind (R := fun z => ∃ H', fin [.cell 10 (some 2), .t 11] X z = some (nearV (nearF d pr cs), X.hp H') ∧ Keep [] H H')
    (α := Nat) (fun y => hn' - y) (fun y => [(4, v), (5, .ptr (.st X.dep 0) 0), (6, .ptr (.st X.dep 1) 0), (7, .ptr (.st X.dep 2) 0), (8, .ptr (.st X.dep 3) 0), (10, .ptr (.st X.dep 4) 0), (12, lv), (13, .ptr (.st X.dep 5) 0), (14, .bool (nearF d pr (cs.take (wn * y))).isSome), (15, .int .i64 (y : Int))])
    (fun y => (X.hp H2).fr [.cells true [.int .i64 W.w, .int .i64 W.h, gv], .cells true [.int .i64 cl, .int .i64 sz], .cells true [.int .i64 f1, .int .i64 f2], .cells true [.int .i64 t1, .int .i64 t2], .cells true [.int .i64 0, .int .i64 0], .cells true [.int .i64 ((nearF d pr (cs.take (wn * y))).getD (0, 0)).1, .int .i64 ((nearF d pr (cs.take (wn * y))).getD (0, 0)).2]] none)
    (fun y => y ≤ hn') ?_ 0 (Nat.zero_le _)
  · rintro y hy ih
    by_cases hlt : y < hn'
    · simp (maxDischargeDepth := 8) only [go_sem, hw, show decide ((y : Int) < W.h) = true from decide_eq_true (by omega), sv.l, sl.l]
      rw [KL_keep _ _ _ (by simp (maxDischargeDepth := 8) only [go_sem, sv.l, sl.l])]
      simp (maxDischargeDepth := 8) only [go_sem]
      refine KL_ind (R := fun z => ∃ H', fin [.cell 10 (some 2), .t 11] X z = some (nearV (nearF d pr cs), X.hp H') ∧ Keep [] H H')
        (α := Nat) (fun x => wn - x) (fun x => [(4, v), (5, .ptr (.st X.dep 0) 0), (6, .ptr (.st X.dep 1) 0), (7, .ptr (.st X.dep 2) 0), (8, .ptr (.st X.dep 3) 0), (10, .ptr (.st X.dep 4) 0), (12, lv), (13, .ptr (.st X.dep 5) 0), (14, .bool (nearF d pr (cs.take (wn * y + x))).isSome), (15, .int .i64 (y : Int)), (16, .int .i64 (x : Int))])
        (fun x => (X.hp H2).fr [.cells true [.int .i64 W.w, .int .i64 W.h, gv], .cells true [.int .i64 cl, .int .i64 sz], .cells true [.int .i64 f1, .int .i64 f2], .cells true [.int .i64 t1, .int .i64 t2], .cells true [.int .i64 0, .int .i64 0], .cells true [.int .i64 ((nearF d pr (cs.take (wn * y + x))).getD (0, 0)).1, .int .i64 ((nearF d pr (cs.take (wn * y + x))).getD (0, 0)).2]] none)
        (fun x => x ≤ wn) ?_ 0 (Nat.zero_le _)
      rintro x hx ih2
      by_cases hlx : x < wn
      · have hnx : nearF d pr (cs.take (wn * y + (x + 1))) = nearS d pr (nearF d pr (cs.take (wn * y + x))) ((x : Int), (y : Int)) := by
          rw [← Nat.add_assoc, List.take_add_one, cat x y hlx hlt]; exact nearF_snoc _ _ _ _
        have ih3 := ih2 (x + 1) hlx (by omega)
        rw [hnx] at ih3
        generalize nearF d pr (cs.take (wn * y + x)) = o at *
        have hlx' : decide ((x : Int) < W.w) = true := decide_eq_true (by omega)
        have wx := wrap_succ (show x ≤ 4611686018427387903 by omega)
        cases hwl : pr ((x : Int), (y : Int)) with
        | false =>
          simp (maxDischargeDepth := 8) only [go_sem, hw, hlx', hWl, hwl, sv.l, sl.l, sg.l, sg.c, sg.k, sg.o, hoct, wx]
          rw [KL_keep _ _ _ (by simp (maxDischargeDepth := 8) only [go_sem, sv.l, sl.l])]
          simp (maxDischargeDepth := 8) only [go_sem]
          simp only [nearS, hwl, Bool.false_and, Bool.false_eq_true, if_false] at ih3
          exact ih3
        | true =>
          cases o with
          | none =>
            simp (maxDischargeDepth := 8) only [go_sem, hw, hlx', hWl, hwl, sv.l, sl.l, sg.l, sg.c, sg.k, sg.o, hoct, wx, Option.isSome_none]
            rw [KL_keep _ _ _ (by simp (maxDischargeDepth := 8) only [go_sem, sv.l, sl.l])]
            simp (maxDischargeDepth := 8) only [go_sem]
            simp only [nearS, hwl, Bool.true_and, if_true] at ih3
            exact ih3
          | some b0 =>
            cases hdl : decide (octC t1 t2 (x : Int) (y : Int) < octC t1 t2 b0.1 b0.2) with
            | false =>
              simp (maxDischargeDepth := 8) only [go_sem, hw, hlx', hWl, hwl, sv.l, sl.l, sg.l, sg.c, sg.k, sg.o, hoct, wx, Option.isSome_some, Option.getD_some, hdl]
              rw [KL_keep _ _ _ (by simp (maxDischargeDepth := 8) only [go_sem, sv.l, sl.l])]
              simp (maxDischargeDepth := 8) only [go_sem]
              simp only [nearS, hwl, hdv, hdl, Bool.true_and, Bool.false_eq_true, if_false] at ih3
              exact ih3
            | true =>
              simp (maxDischargeDepth := 8) only [go_sem, hw, hlx', hWl, hwl, sv.l, sl.l, sg.l, sg.c, sg.k, sg.o, hoct, wx, Option.isSome_some, Option.getD_some, hdl]
              rw [KL_keep _ _ _ (by simp (maxDischargeDepth := 8) only [go_sem, sv.l, sl.l])]
              simp (maxDischargeDepth := 8) only [go_sem]
              simp only [nearS, hwl, hdv, hdl, Bool.true_and, if_true] at ih3
              exact ih3
      · have : x = wn := by omega
        subst this
        simp (maxDischargeDepth := 8) only [go_sem, hw, show decide ((x : Int) < W.w) = false from decide_eq_false (by omega), wrap_succ (show y ≤ 4611686018427387903 by omega), sv.l, sl.l]
        rw [KL_keep _ _ _ (by simp (maxDischargeDepth := 8) only [go_sem, sv.l, sl.l])]
        simp (maxDischargeDepth := 8) only [go_sem]
        have := ih (y + 1) (by omega) (by omega)
        exact this
    · have : y = hn' := by omega
      subst this
      have hfull : cs.take (wn * y) = cs := List.take_of_length_le (by omega)
      rw [hfull]
      simp (maxDischargeDepth := 8) only [go_sem, hw, show decide ((y : Int) < W.h) = false from decide_eq_false (by omega), sv.l, sl.l]
      have kt := (show Keep [] X.heap H2 by rw [hH]; exact k2).back0 (u := none)
      rw [hH] at kt
      simp only [escOk_none, if_true] at kt
      generalize nearF d pr cs = o
      cases o with
      | none =>
        simp (maxDischargeDepth := 8) only [go_sem, hw, Option.isSome_none]
        exact ⟨_, rfl, kt⟩
      | some b0 =>
        simp (maxDischargeDepth := 8) only [go_sem, hw, Option.isSome_some, Option.getD_some]
        exact ⟨_, rfl, kt⟩
end
theorem nearest_of {X : Mem} {p : WP} {k : Nat} {W : Wd} {L : List Nat} {F : List (Int × Int)} {Z : List Nat} {v : SV} {cl sz f1 f2 t1 t2 : Int} {z : Option (SV × Mem)} (hz : RF tb f_settle_Nearest [.ptr (.hp p.k 0) 0, .ptr (.hp k 0) 0, .agg [.int .i64 cl, .int .i64 sz], .agg [.int .i64 f1, .int .i64 f2], .agg [.int .i64 t1, .int .i64 t2], v] X = z) (hW : WorldAt (Hm X.heap) p W) (h : PA (Hm X.heap) k W L F Z) {T : List Rc} (hT : LiesD rectF (Hm X.heap) v T) (hT2 : T.length ≤ 4611686018427387903) (hw : X.Wf) (hhb : X.hb ≤ X.hl) :
    z = some (if mayS cl sz = true ∧ nearC t1 t2 = true then nearV (nearO W L T cl sz f1 f2 t1 t2) else .tup [.agg [.int .i64 0, .int .i64 0], .int .i64 1], X) := hz.symm.trans (r_settle_Nearest hW h hT hT2 hw hhb cl sz f1 f2 t1 t2)
def W51 : Wd := ⟨5, 1, [0, 0, 0, 0, 0], [], []⟩
theorem new51 : newW 5 1 (List.replicate 5 0) [] = some W51 := by rfl
theorem good51 : W51.Good := by unfold Wd.Good; decide
theorem st51 : ∀ i, i < 5 → stI W51 0 1 i = true := by
  have h : ((List.range 5).all fun i => stI W51 0 1 i) = true := by decide +kernel
  intro i hi
  exact List.all_eq_true.1 h i (List.mem_range.2 hi)
theorem lab51 {rt : Nat → Nat} {cl : Nat → Int × Int} {L : List Nat} {F : List (Int × Int)} {Z : List Nat} {num : Nat → Nat} (h : Lab 5 (stI W51 0 1) rt cl 5 L F Z num) (hr : ∀ x y, x < 5 → y < 5 → (rt x = rt y ↔ Lnk (EL W51 0 1 5) x y)) : L = [1, 1, 1, 1, 1] := by
  have hstep : ∀ i, i + 1 < 5 → L.getD i 0 = L.getD (i + 1) 0 := fun i hi => by
    have e : rt i = rt (i + 1) := (hr i (i + 1) (by omega) hi).2 (.step (.refl _) (.inr ⟨hi, st51 _ hi, st51 _ (by omega), .inl ⟨by show (i + 1) % 5 ≠ 0; omega, rfl⟩⟩))
    exact h.ca.same (fun _ _ h => h.symm) (fun _ _ _ h k => h.trans k) (i + 2) (i + 1) (by omega) hi (st51 _ hi) i (by omega) (st51 _ (by omega)) e
  have h0 : L.getD 0 0 = 1 := by
    rcases (h.ca 0 (by omega)).2 (st51 0 (by omega)) with ⟨j, hj, _⟩ | ⟨_, e⟩
    · omega
    · exact e
  have h1 := hstep 0 (by omega)
  have h2 := hstep 1 (by omega)
  have h3 := hstep 2 (by omega)
  have h4 := hstep 3 (by omega)
  exact list_ext0 (N := 5) h.len rfl (fun i hi => by
    have : i = 0 ∨ i = 1 ∨ i = 2 ∨ i = 3 ∨ i = 4 := by omega
    rcases this with rfl | rfl | rfl | rfl | rfl
    · exact h0
    · rw [← h1, h0]; rfl
    · rw [← h2, ← h1, h0]; rfl
    · rw [← h3, ← h2, ← h1, h0]; rfl
    · rw [← h4, ← h3, ← h2, ← h1, h0]; rfl)
theorem near51 : nearO W51 [1, 1, 1, 1, 1] [(3, 0, 2, 1)] 0 1 0 0 4 0 = some (2, 0) := by decide +kernel
theorem r_law19_awake (X : Mem) (hw : X.Wf) (hhb : X.hb ≤ X.hl) : ∃ H' u, RF tb f_law19_awake [] X = some (.bool true, (X.hp H').es (escMin X.esc u)) ∧ Keep [] X.heap H' := by
  rw [RF_go t_law19_awake _ _ rfl, push_hp]
  generalize hH : X.heap = H
  have hHl : X.hl = H.length := by rw [← hH]; rfl
  obtain ⟨H1, hH1⟩ : ∃ H1, H ++ [(0, SBk.cells true (List.replicate 5 [SV.int .u8 0]).flatten)] = H1 := ⟨_, rfl⟩
  have own : Own byteF H1 (.sl (.hp H.length 0) 0 5 (some 5) 1) (List.replicate 5 0) := by rw [← hH1]; exact mkslV_own byteF_even H 0 5
  have k1 : Keep [] H H1 := by rw [← hH1]; exact Keep.app _ _ _
  have hl1 := k1.1
  have hn := r_grid_New (X := (X.hp H1).fr [] none) (bl := []) (own.lies byteF_even) (LiesD.nil bldF _) (by decide) (fr_wf (hp_wf hw) _ _) (by show X.hb ≤ H1.length; omega) 5 1
  rw [new51] at hn
  obtain ⟨H2, u, p, h1, hO, k2, hF⟩ := hn
  change Keep [] H1 H2 at k2
  simp (maxDischargeDepth := 8) only [go_sem, s_law19_awake, hw, hH, hH1, h1, show ((5 : Int) ≤ (two48 : Int)) = True from by simp [two48]]
  generalize hz : RF tb f_parts_New _ _ = z
  have hl2 := k2.1
  obtain ⟨H3, k, L, F, Z, num, rt, u3, rfl, hP, hB, hr, k3, -⟩ := hz ▸ r_parts_New (X := (X.hp H2).fr [.cells true [.int .i64 0, .int .i64 1]] (escMin none u)) hO good51 (fr_wf (hp_wf hw) _ _) (by show X.hb ≤ H2.length; omega) 0 1 (by decide) (by decide) (by decide)
  have k3' : Keep [] H2 H3 := k3
  obtain rfl := lab51 hB hr
  have hl3 := k3'.1
  simp (maxDischargeDepth := 8) only [go_sem, hw]
  obtain ⟨H4, hH4⟩ : ∃ H4, H3 ++ [(0, SBk.cells true [SV.int .i64 3, .int .i64 0, .int .i64 2, .int .i64 1])] = H4 := ⟨_, rfl⟩
  have oT : Own rectF H4 (.sl (.hp H3.length 0) 0 1 (some 1) 4) [(3, 0, 2, 1)] := by rw [← hH4]; exact own_new rectF_even H3 [(3, 0, 2, 1)] (some 1)
  have k4 : Keep [] H3 H4 := by rw [← hH4]; exact Keep.app _ _ _
  have hl4 := k4.1
  simp (maxDischargeDepth := 8) only [go_sem, hw, hH4]
  generalize hz : RF tb f_settle_Nearest _ _ = z
  obtain rfl := nearest_of (p := p) hz ((hO.keep (k3'.trans k4) (by simp)).at_) (hP.sub k4.sub) (oT.lies rectF_even) (by decide) (fr_wf (hp_wf hw) _ _) (by show X.hb ≤ H4.length; omega)
  rw [near51, if_pos (show mayS 0 1 = true ∧ nearC 4 0 = true by decide +kernel)]
  simp (maxDischargeDepth := 8) only [go_sem, hw, nearV, show ((0 : Int) == 0) = true from rfl]
  exact ⟨_, _, rfl, by rw [← hH] at k1 ⊢; exact (((k1.trans k2).trans k3').trans k4).back0⟩
theorem aw19 {X : Mem} {z : Option (SV × Mem)} (hz : RF tb f_law19_awake [] X = z) (hw : X.Wf) (hhb : X.hb ≤ X.hl) : ∃ H' u, z = some (.bool true, (X.hp H').es (escMin X.esc u)) ∧ Keep [] X.heap H' := by
  rw [← hz]; exact r_law19_awake X hw hhb
theorem nearR_of {X : Mem} {gv : SV} {W : Wd} {cl sz : Int} {rt : Nat → Nat} {cf : Nat → Int × Int} {L : List Nat} {F : List (Int × Int)} {Z : List Nat} {num : Nat → Nat} {v : SV} {f1 f2 t1 t2 : Int} {z : Option (SV × Mem)} (hz : RF tb f_ref19_Nearest [grV W.w W.h gv, .agg [.int .i64 cl, .int .i64 sz], .agg [.int .i64 f1, .int .i64 f2], .agg [.int .i64 t1, .int .i64 t2], v] X = z) (hg : LiesD boolF (Hm X.heap) gv (W.gr cl sz)) (w1 : 1 ≤ W.w ∧ W.w ≤ 128) (w2 : 1 ≤ W.h ∧ W.h ≤ 128) (hB : Lab (W.w.toNat * W.h.toNat) (stI W cl sz) rt cf (W.w.toNat * W.h.toNat) L F Z num) (hr : ∀ x y, x < W.w.toNat * W.h.toNat → y < W.w.toNat * W.h.toNat → (rt x = rt y ↔ Lnk (EL W cl sz (W.w.toNat * W.h.toNat)) x y)) {T : List Rc} (hT : LiesD rectF (Hm X.heap) v T) (hT2 : T.length ≤ 4611686018427387903) (hw : X.Wf) (hhb : X.hb ≤ X.hl) :
    ∃ H', z = some (if mayS cl sz = true ∧ nearC t1 t2 = true then nearV (nearO W L T cl sz f1 f2 t1 t2) else .tup [.agg [.int .i64 0, .int .i64 0], .int .i64 1], X.hp H') ∧ Keep [] X.heap H' := by
  subst hz; exact r_ref19_Nearest hg w1 w2 hB hr hT hT2 hw hhb f1 f2 t1 t2
theorem rect_hxs (l : List Rc) : SV.hxs (l.flatMap rectF.enc) = 0 := by induction l with | nil => rfl | cons a l ih => simp only [List.flatMap_cons]; exact ih
theorem r_law19_SettleNearest {X : Mem} {tv bv : SV} {tiles : List Int} {bl : List Bld} (hm : MapIn X tv bv tiles bl) (hw : X.Wf) (hhb : X.hb ≤ X.hl) (w hh cl sz f1 f2 t1 t2 : Int) {v : SV} {T : List Rc} (hT : LiesD rectF X v T) (hTb : 2 * T.length * 32 ≤ two48) : ∃ m', RF tb f_law19_SettleNearest [.agg [.int .i64 w, .int .i64 hh, tv, bv], .agg [.int .i64 cl, .int .i64 sz, .int .i64 f1, .int .i64 f2, .int .i64 t1, .int .i64 t2, v]] X = some (.bool true, m') := by
  have hT2 : T.length ≤ 4611686018427387903 := by simp only [two48] at hTb; omega
  have sv := hT.isSl
  rw [RF_go t_law19_SettleNearest _ _ rfl, push_hp]
  simp (maxDischargeDepth := 8) only [go_sem, s_law19_SettleNearest, hw, hm.t.cell, hm.b.cell, sv.l, sv.c, sv.k, sv.o]
  generalize hz : RF tb f_law06_Both _ _ = z
  rcases both_of hz ⟨hm.t, hm.g, hm.b, hm.n⟩ (by simp (maxDischargeDepth := 8) only [go_sem, hw]) hhb with ⟨H', u, rfl, k⟩ | ⟨H', u, p, q, rfl, hO, hR, hg, k, -, -⟩
  · have hl : X.hb ≤ H'.length := by have := k.1; exact Nat.le_trans hhb this
    simp (maxDischargeDepth := 8) only [go_sem, hw, parts_new0, sv.l, sv.c, sv.k, sv.o]
    generalize hz : RF tb f_law19_awake _ _ = z
    obtain ⟨H', u, rfl, -⟩ := aw19 hz (by simp (maxDischargeDepth := 8) only [go_sem, hw]) hl
    simp (maxDischargeDepth := 8) only [go_sem, hw]
    exact ⟨_, rfl⟩
  · have hl : X.hb ≤ H'.length := by have := k.1; exact Nat.le_trans hhb this
    have k' : Keep [] X.heap H' := k
    have hT' : LiesD rectF (Hm H') v T := LiesD.keep (show LiesD rectF (Hm X.heap) v T from hT) k' (by simp)
    have w1 := hO.at_.w1
    have w2 := hO.at_.h1
    dsimp only at w1 w2
    simp (maxDischargeDepth := 8) only [go_sem, hw, sv.l, sv.c, sv.k, sv.o]
    generalize hz : RF tb f_parts_New _ _ = z
    rcases parts_new_of hz (show WorldOwn H' p _ from hO) hg (fr_wf (hp_wf hw) _ _) hl with ⟨hms, H1, u1, rfl, k1⟩ | ⟨hms, H1, kp, L, F, Z, num, rt, u1, rfl, hP, hB, hr, k1, -⟩
    · have k1' : Keep [] H' H1 := k1
      have hl1 : X.hb ≤ H1.length := Nat.le_trans hl k1'.1
      simp (maxDischargeDepth := 8) only [go_sem, hw, show ((1 : Int) != 0) = true from by decide]
      generalize hz : RF tb f_law19_awake _ _ = z
      obtain ⟨H', u, rfl, -⟩ := aw19 hz (by simp (maxDischargeDepth := 8) only [go_sem, hw]) hl1
      simp (maxDischargeDepth := 8) only [go_sem, hw]
      exact ⟨_, rfl⟩
    · have k1' : Keep [] H' H1 := k1
      have hl1 : X.hb ≤ H1.length := Nat.le_trans hl k1'.1
      have hT1 := hT'.keep k1' (by simp)
      have hR1 := hR.keep k1' (by simp)
      obtain ⟨av, H2, ha, oa, k2, fa, sa⟩ := app_fresh rectF_even (by decide) rectF_ok rect_hxs hT1 (bytes := 32) hTb (by simp only [two48] at *; omega) X hl1
      have ha' := fun (z : List SV) (hz : z.length = 4) (aw : Bk → Bool) (haw : ∀ k w, aw (.hp k w) = true) => ha z hz aw haw
      have hl2 : X.hb ≤ H2.length := Nat.le_trans hl1 k2.1
      change ∀ z : List SV, z.length = 4 → ∀ aw : Bk → Bool, (∀ k w, aw (.hp k w) = true) → ∀ f e, appV 4 32 z aw (.sl (.hp H1.length 0) 0 0 (some 0) 4) v ((X.hp (H1 ++ [(0, .cells true [])])).fr f e) = some (av, (X.hp H2).fr f e) at ha'
      obtain ⟨r1, r2, r3, hres⟩ : ∃ a b e : Int, (if mayS cl sz = true ∧ nearC t1 t2 = true then nearV (nearO ⟨w, hh, tiles, bl, []⟩ L T cl sz f1 f2 t1 t2) else .tup [.agg [.int .i64 0, .int .i64 0], .int .i64 1]) = .tup [.agg [.int .i64 a, .int .i64 b], .int .i64 e] := by
        split
        · cases nearO ⟨w, hh, tiles, bl, []⟩ L T cl sz f1 f2 t1 t2 with
          | none => exact ⟨_, _, _, rfl⟩
          | some b => exact ⟨_, _, _, rfl⟩
        · exact ⟨_, _, _, rfl⟩
      simp (maxDischargeDepth := 8) only [go_sem, hw, show ((0 : Int) != 0) = false from by decide, sv.l, sv.c, sv.k, sv.o]
      rw [ha' _ rfl _ (fun k w => by simp)]
      simp (maxDischargeDepth := 8) only [go_sem, hw, sa.l, sa.c, sa.k, sa.o]
      generalize hz : RF tb f_settle_Nearest _ _ = z
      obtain rfl := nearest_of (p := p) (k := kp) (W := ⟨w, hh, tiles, bl, []⟩) (L := L) (F := F) (Z := Z) (T := T) hz ((hO.keep (k1'.trans k2) (by simp)).at_) (hP.sub k2.sub) (oa.lies rectF_even) hT2 (by simp (maxDischargeDepth := 8) only [go_sem, hw]) (by simp (maxDischargeDepth := 8) only [go_sem]; exact hl2)
      rw [hres]
      simp (maxDischargeDepth := 8) only [go_sem, hw, sv.l, sv.c, sv.k, sv.o]
      generalize hz : RF tb f_ref08_Of _ _ = z
      obtain ⟨gv, H3, rfl, og, fg, k3⟩ := gr_of (cl := cl) (sz := sz) hz ((hR.keep k1' (by simp)).keep k2 (by simp)) (fun _ _ => rfl) hg (by simp (maxDischargeDepth := 8) only [go_sem, hw]) (by simp (maxDischargeDepth := 8) only [go_sem]; exact Nat.le_refl _)
      change Keep [] H2 H3 at k3
      have sg := og.isSl boolF_even
      have hl3 : X.hb ≤ H3.length := Nat.le_trans hl2 k3.1
      simp (maxDischargeDepth := 8) only [go_sem, hw, grV, sg.l, sg.c, sg.k, sg.o, sv.l, sv.c, sv.k, sv.o]
      generalize hz : RF tb f_ref19_Nearest _ _ = z
      obtain ⟨H4, rfl, k4⟩ := nearR_of (W := ⟨w, hh, tiles, bl, []⟩) (rt := rt) hz (og.lies boolF_even) w1 w2 hB hr ((hT1.keep k2 (by simp)).keep k3 (by simp)) hT2 (by simp (maxDischargeDepth := 8) only [go_sem, hw]) (by simp (maxDischargeDepth := 8) only [go_sem]; first | exact hl3 | exact k3.1)
      change Keep [] H3 H4 at k4
      have hl4 : X.hb ≤ H4.length := Nat.le_trans hl3 k4.1
      rw [hres]
      have bq : ∀ a : Int, (a == a) = true := fun a => beq_self_eq_true a
      simp (maxDischargeDepth := 8) only [go_sem, hw, bq, sv.l, sv.c, sv.k, sv.o, sg.l, sg.c, sg.k, sg.o]
      generalize hz : RF tb f_law19_awake _ _ = z
      obtain ⟨H', u, rfl, -⟩ := aw19 hz (by simp (maxDischargeDepth := 8) only [go_sem, hw]) (by simp (maxDischargeDepth := 8) only [go_sem]; exact hl4)
      simp (maxDischargeDepth := 8) only [go_sem, hw]
      exact ⟨_, rfl⟩
section
open Go.RowKit Go.WideShapes
abbrev Rt' := (Int × Int) × (Int × Int)
abbrev rectF' : Fl Rt' := Fl.pair (Fl.pair (Fl.int .i64) (Fl.int .i64)) (Fl.pair (Fl.int .i64) (Fl.int .i64))
theorem rectF'_even : rectF'.Even := ⟨fun _ => rfl⟩
def rt4 (b : Rt') : Rc := (b.1.1, b.1.2, b.2.1, b.2.2)
theorem rt4_lies {m : Mem} {v : SV} {l : List Rt'} (h : LiesD rectF' m v l) : LiesD rectF m v (l.map rt4) := by
  unfold LiesD at *
  rw [List.length_map, show (l.map rt4).flatMap rectF.enc = l.flatMap rectF'.enc by rw [List.flatMap_map]; rfl]
  exact h
abbrev AT := (Int × Int) × (Int × Int) × (Int × Int) × Sl Rt'
abbrev rdA : Rd AT := Rd.pair (Rd.flat cellF) (Rd.pair (Rd.flat cellF) (Rd.pair (Rd.flat cellF) (Rd.slice rectF')))
theorem asked_in {P : Program} {e'' : TypeId} {okC : Rt' → Prop} {b : AT} (h3 : slOk P e'' okC b.2.2.2) (h32 : P.bytesOf e'' = 32) {pre n1 : In} (e1 : n1.map (·.2) = rdA.blks b pre.length) :
    ∃ v, rdA.cells b pre.length = [.int .i64 b.1.1, .int .i64 b.1.2, .int .i64 b.2.1.1, .int .i64 b.2.1.2, .int .i64 b.2.2.1.1, .int .i64 b.2.2.1.2, v] ∧ LiesD rectF (In.mem (pre ++ n1)) v (b.2.2.2.l.map rt4) ∧ 2 * (b.2.2.2.l.map rt4).length * 32 ≤ two48 := by
  have e1 : n1.map (·.2) = slB rectF' b.2.2.2 := by simpa [Rd.pair, Rd.flat, Rd.slice] using e1
  have hl := sl_inG rectF'_even h3 (pre := pre) (post := []) (A := []) (B := []) (by simpa using e1)
  rw [List.append_nil] at hl
  exact ⟨_, rfl, rt4_lies hl, by rw [List.length_map]; exact sl_bd h3 h32⟩
theorem law19_SettleNearest {P : Program} {e e' e'' : TypeId} {okB : Bl' → Prop} {okC : Rt' → Prop} (a : MT) (b : AT) (h1 : slOk P e (inR .u8) a.2.2.1) (h2 : slOk P e' okB a.2.2.2) (hB : P.bytesOf e' = 40) (h3 : slOk P e'' okC b.2.2.2) (h32 : P.bytesOf e'' = 32) {n0 n1 : In} (e0 : n0.map (·.2) = rdM.blks a 0)
    (e1 : n1.map (·.2) = rdA.blks b ([] ++ n0).length) : ∃ m', RF tb f_law19_SettleNearest [.agg (rdM.cells a 0), .agg (rdA.cells b ([] ++ n0).length)] (In.mem ([] ++ n0 ++ n1)) = some (.bool true, m') := by
  rw [rdM_blks] at e0
  obtain ⟨v, e, hl, hb⟩ := asked_in h3 h32 e1
  rw [e]
  exact r_law19_SettleNearest (mapIn_of (pre := []) h1 h2 hB e0) (In.wf _) (Nat.zero_le _) _ _ _ _ _ _ _ _ hl hb
end
end Go.Sh.T
