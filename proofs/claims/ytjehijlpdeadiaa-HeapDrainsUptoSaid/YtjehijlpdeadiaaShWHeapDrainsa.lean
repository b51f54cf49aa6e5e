import Derived.Test.YtjehijlpdeadiaaShTabHeapDrains
import Derived.Test.YtjehijlpdeadiaaShArg
set_option linter.all false
set_option linter.unusedVariables false
set_option linter.unusedSimpArgs false
set_option autoImplicit false
namespace Go.Sh.T
open Go.Sh
set_option maxHeartbeats 8000000
set_option maxRecDepth 20000
def nearP (x : Int) : Bool := decide (-1048576 ≤ x) && decide (x ≤ 1048576)
def nearC (x y : Int) : Bool := nearP x && nearP y
theorem wrap_small {x : Int} (h1 : -9223372036854775808 ≤ x) (h2 : x ≤ 9223372036854775807) : IntKind.wrap .i64 x = x := by
  simp only [IntKind.wrap, IntKind.bits, IntKind.signed]
  simp
  omega
def lastX (x w : Int) : Int := IntKind.wrap .i64 (IntKind.wrap .i64 (x + w) - 1)
abbrev rect (x y w h : Int) : SV := .agg [.int .i64 x, .int .i64 y, .int .i64 w, .int .i64 h]
def sideB (n : Int) : Bool := decide (1 ≤ n) && decide (n ≤ 1048576)
def mayB (x y w h : Int) : Bool := nearC x y && sideB w && sideB h && nearC (lastX x w) (lastX y h)
def hasB (x y w h a b : Int) : Bool := mayB x y w h && (decide (x ≤ a) && decide (y ≤ b) && decide (a ≤ lastX x w) && decide (b ≤ lastX y h))
abbrev cellV (a b : Int) : SV := .agg [.int .i64 a, .int .i64 b]
abbrev Rc := Int × Int × Int × Int
abbrev Bld := Int × Rc
abbrev rectR (r : Rc) : SV := rect r.1 r.2.1 r.2.2.1 r.2.2.2
def rectF : Fl Rc := Fl.pair (Fl.int .i64) (Fl.pair (Fl.int .i64) (Fl.pair (Fl.int .i64) (Fl.int .i64)))
def bldF : Fl Bld := Fl.pair (Fl.int .i64) rectF
abbrev byteF : Fl Int := Fl.int .u8
def hasR (r : Rc) (a b : Int) : Bool := hasB r.1 r.2.1 r.2.2.1 r.2.2.2 a b
section
variable {α β : Type} [DecidableEq α]
def alGet (k : α) : List (α × β) → Option β
  | [] => none
  | (a, v) :: r => if k = a then some v else alGet k r
def alV (f : α → SV) (g : β → SV) (l : List (α × β)) : List (SV × SV) := l.map fun x => (f x.1, g x.2)
variable {f : α → SV} {g : β → SV} (hf : ∀ a b, seq (f a) (f b) = some (decide (a = b)))
include hf
end
abbrev intV (n : Int) : SV := .int .i64 n
abbrev cellW (c : Int × Int) : SV := cellV c.1 c.2
structure Wd where
  w : Int
  h : Int
  tiles : List Int
  bl : List Bld
  dirty : List Rc
/-- The building that has a cell. -/
def atL (l : List Bld) (a b : Int) : Option Int := (l.find? fun x => hasR x.2 a b).map (·.1)
def Wd.has (W : Wd) (a b : Int) : Bool := hasB 0 0 W.w W.h a b
structure WP where
  k : Nat
  kb : Nat
  ko : Nat
  tv : SV
  dv : SV
  on : List ((Int × Int) × Int)
def WP.fp (p : WP) : List Nat := [p.k, p.kb, p.ko] ++ slFp p.tv ++ slFp p.dv
structure WorldAt (m : Mem) (p : WP) (W : Wd) : Prop where
  hd : m.get (.hp p.k 0) = some (.cells true [.int .i64 W.w, .int .i64 W.h, p.tv, .map (.hp p.kb 0), .map (.hp p.ko 0), p.dv])
  bt : m.get (.hp p.kb 0) = some (.map (alV intV rectR W.bl))
  ot : m.get (.hp p.ko 0) = some (.map (alV cellW intV p.on))
  tl : LiesD byteF m p.tv W.tiles
  dl : LiesD rectF m p.dv W.dirty
  on : ∀ a b, alGet (a, b) p.on = atL W.bl a b
  w1 : 1 ≤ W.w ∧ W.w ≤ 128
  h1 : 1 ≤ W.h ∧ W.h ≤ 128
  len : (W.tiles.length : Int) = W.w * W.h
  nd : p.fp.Nodup
section
variable {m X : Mem} {p : WP} {W : Wd} (hW : WorldAt m p W) (hX : HpSub m X)
include hW hX
theorem WorldAt.sub : WorldAt X p W := ⟨hX _ _ _ hW.hd, hX _ _ _ hW.bt, hX _ _ _ hW.ot, hW.tl.sub hX, hW.dl.sub hX, hW.on, hW.w1, hW.h1, hW.len, hW.nd⟩
theorem WorldAt.gb : X.get (.hp p.kb 0) = some (.map (alV intV rectR W.bl)) := hX _ _ _ hW.bt
theorem WorldAt.go : X.get (.hp p.ko 0) = some (.map (alV cellW intV p.on)) := hX _ _ _ hW.ot
end
def Wd.all (W : Wd) : Rc := (0, 0, W.w, W.h)
structure WP.Apart (p : WP) : Prop where
  a : ¬ p.kb = p.k
  b : ¬ p.ko = p.k
  c : ¬ p.kb = p.ko
  d : ¬ p.ko = p.kb
  a' : ¬ p.k = p.kb
  b' : ¬ p.k = p.ko
  t : ∀ i ∈ slFp p.tv, i ≠ p.k ∧ i ≠ p.kb ∧ i ≠ p.ko ∧ i ∉ slFp p.dv
  e : ∀ i ∈ slFp p.dv, i ≠ p.k ∧ i ≠ p.kb ∧ i ≠ p.ko
theorem WorldAt.congr {A B : Hp} {p : WP} {W : Wd} (h : WorldAt (Hm A) p W) (hc : ∀ i ∈ p.fp, B[i]? = A[i]?) : WorldAt (Hm B) p W :=
  ⟨(hget_congr (hc _ (by simp [WP.fp])) 0).trans h.hd, (hget_congr (hc _ (by simp [WP.fp])) 0).trans h.bt, (hget_congr (hc _ (by simp [WP.fp])) 0).trans h.ot,
    h.tl.congr fun i hi => hc i (by simp [WP.fp, hi]), h.dl.congr fun i hi => hc i (by simp [WP.fp, hi]), h.on, h.w1, h.h1, h.len, h.nd⟩
theorem WorldAt.lt {H : Hp} {p : WP} {W : Wd} (h : WorldAt (Hm H) p W) : ∀ i ∈ p.fp, i < H.length := by
  intro i hi
  simp only [WP.fp, List.cons_append, List.nil_append, List.mem_cons, List.mem_append] at hi
  rcases hi with rfl | rfl | rfl | hi | hi
  · exact hget_lt h.hd
  · exact hget_lt h.bt
  · exact hget_lt h.ot
  · exact h.tl.fp i hi
  · exact h.dl.fp i hi
structure WorldOwn (H : Hp) (p : WP) (W : Wd) : Prop where
  at_ : WorldAt (Hm H) p W
  own : Own rectF H p.dv W.dirty
theorem WorldOwn.congr {A B : Hp} {p : WP} {W : Wd} (h : WorldOwn A p W) (hc : ∀ i ∈ p.fp, B[i]? = A[i]?) : WorldOwn B p W :=
  ⟨h.at_.congr hc, h.own.congr fun i hi => hc i (by simp [WP.fp, hi])⟩
theorem wrap_succ {i : Nat} (h : i ≤ 4611686018427387903) : IntKind.wrap .i64 ((i : Int) + 1) = ((i + 1 : Nat) : Int) := by rw [wrap_small (by omega) (by omega)]; rfl
structure QP where
  k : Nat
  tv : SV
  bv : SV
  ev : SV
def QP.fp (p : QP) : List Nat := [p.k] ++ slFp p.tv ++ slFp p.bv ++ slFp p.ev
/-- A reference's world: its buildings by rising numbers. -/
structure RefAt (m : Mem) (p : QP) (W : Wd) (bl : List Bld) : Prop where
  hd : m.get (.hp p.k 0) = some (.cells true [.int .i64 W.w, .int .i64 W.h, p.tv, p.bv, p.ev])
  tl : LiesD byteF m p.tv W.tiles
  bt : LiesD bldF m p.bv bl
  el : LiesD rectF m p.ev W.dirty
  w1 : 1 ≤ W.w ∧ W.w ≤ 128
  h1 : 1 ≤ W.h ∧ W.h ≤ 128
  len : (W.tiles.length : Int) = W.w * W.h
  few : bl.length ≤ 256
section
variable {m X : Mem} {p : QP} {W : Wd} {bl : List Bld} (hV : RefAt m p W bl) (hX : HpSub m X)
include hV hX
theorem RefAt.sub : RefAt X p W bl := ⟨hX _ _ _ hV.hd, hV.tl.sub hX, hV.bt.sub hX, hV.el.sub hX, hV.w1, hV.h1, hV.len, hV.few⟩
end
structure RefOwn (H : Hp) (p : QP) (W : Wd) (bl : List Bld) : Prop where
  at_ : RefAt (Hm H) p W bl
  ob : Own bldF H p.bv bl
  oe : Own rectF H p.ev W.dirty
  nd : p.fp.Nodup
theorem WorldOwn.keep {A B : Hp} {p : WP} {W : Wd} {S : List Nat} (h : WorldOwn A p W) (k : Keep S A B) (hs : ∀ i ∈ p.fp, i ∉ S) : WorldOwn B p W := h.congr fun i hi => k.2 i (h.at_.lt i hi) (hs i hi)
theorem RefOwn.lt {H : Hp} {p : QP} {W : Wd} {bl : List Bld} (h : RefOwn H p W bl) : ∀ i ∈ p.fp, i < H.length := by
  intro i hi
  simp only [QP.fp, List.mem_append, List.mem_singleton] at hi
  rcases hi with ((rfl | hi) | hi) | hi
  · exact hget_lt h.at_.hd
  · exact h.at_.tl.fp i hi
  · exact h.at_.bt.fp i hi
  · exact h.at_.el.fp i hi
theorem RefOwn.congr {A B : Hp} {p : QP} {W : Wd} {bl : List Bld} (h : RefOwn A p W bl) (hc : ∀ i ∈ p.fp, B[i]? = A[i]?) : RefOwn B p W bl :=
  ⟨⟨(hget_congr (hc _ (by simp [QP.fp])) 0).trans h.at_.hd, h.at_.tl.congr fun i hi => hc i (by simp [QP.fp, hi]), h.at_.bt.congr fun i hi => hc i (by simp [QP.fp, hi]), h.at_.el.congr fun i hi => hc i (by simp [QP.fp, hi]), h.at_.w1, h.at_.h1, h.at_.len, h.at_.few⟩,
    h.ob.congr fun i hi => hc i (by simp [QP.fp, hi]), h.oe.congr fun i hi => hc i (by simp [QP.fp, hi]), h.nd⟩
theorem RefOwn.keep {A B : Hp} {p : QP} {W : Wd} {bl : List Bld} {S : List Nat} (h : RefOwn A p W bl) (k : Keep S A B) (hs : ∀ i ∈ p.fp, i ∉ S) : RefOwn B p W bl := h.congr fun i hi => k.2 i (h.lt i hi) (hs i hi)
section
variable {X : Mem} {tv bv : SV} {tiles : List Int} {bl : List Bld} (ht : LiesD byteF (Hm X.heap) tv tiles) (hg : ∀ t ∈ tiles, 0 ≤ t ∧ t ≤ 255) (hb : LiesD bldF (Hm X.heap) bv bl) (hbl : bl.length ≤ two48) (hw : X.Wf) (hhb : X.hb ≤ X.hl) (w hh : Int)
include ht hg hb hbl hw hhb
end
def Wd.plain (w h : Int) : Wd := ⟨w, h, List.replicate (w * h).toNat 0, [], []⟩
/-- Rounds, each of which keeps what lies behind, or notes it. -/
inductive RoundsN (F : Tbl) (b : Bk) (P : Mem → Prop) (H : Nat) : List (List SV) → Mem → Option Nat → Mem → Option Nat → Bool → Prop
  | nil (m : Mem) (u : Option Nat) : RoundsN F b P H [] m u m u true
  | stop {x : List SV} {L : List (List SV)} {m m' : Mem} {u d : Option Nat} (h : Yields F b x m m' d false) (hp : P m') (hk : m'.hl = m.hl ∨ ∃ k, d = some k ∧ k < H) : RoundsN F b P H (x :: L) m u m' (escMin u d) false
  | next {x : List SV} {L : List (List SV)} {m m' m'' : Mem} {u d u' : Option Nat} {go : Bool} (h : Yields F b x m m' d true) (hp : P m') (hk : m'.hl = m.hl ∨ ∃ k, d = some k ∧ k < H) (t : RoundsN F b P H L m' (escMin u d) m'' u' go) : RoundsN F b P H (x :: L) m u m'' u' go
theorem RoundsN.weak {F : Tbl} {b : Bk} {P : Mem → Prop} {H H' : Nat} {L : List (List SV)} {m m' : Mem} {u u' : Option Nat} {go : Bool} (h : RoundsN F b P H L m u m' u' go) (hh : H ≤ H') : RoundsN F b P H' L m u m' u' go := by
  induction h with
  | nil => exact .nil _ _
  | stop h hp hk => exact .stop h hp (hk.imp_right fun ⟨k, h1, h2⟩ => ⟨k, h1, by omega⟩)
  | next h hp hk _ ih => exact .next h hp (hk.imp_right fun ⟨k, h1, h2⟩ => ⟨k, h1, by omega⟩) ih
section
open Go.RowKit Go.WideShapes
theorem slB_cases {α : Type} (d : Fl α) (s : Sl α) : slB d s = [] ∨ slB d s = [s.l.flatMap d.enc] := by
  unfold slB; split <;> simp
theorem blk_at {n0 : In} {L : List (List SV)} (h : n0.map (·.2) = L) {j : Nat} {c : List SV} (hj : L[j]? = some c) (pre post : In) : ∃ t, (pre ++ n0 ++ post)[pre.length + j]? = some (t, c) := by
  rw [← h, List.getElem?_map] at hj
  cases hx : n0[j]? with
  | none => rw [hx] at hj; cases hj
  | some x =>
    rw [hx] at hj
    simp only [Option.map_some, Option.some.injEq] at hj
    have hlt := (List.getElem?_eq_some_iff.1 hx).1
    refine ⟨x.1, ?_⟩
    rw [List.append_assoc, List.getElem?_append_right (Nat.le_add_right _ _), Nat.add_sub_cancel_left, List.getElem?_append_left hlt, hx, ← hj]
/-- A slice that came in. -/
theorem sl_inG {α : Type} {d : Fl α} (hd : d.Even) {P : Program} {e : TypeId} {ok : α → Prop} {s : Sl α} (hok : slOk P e ok s) {pre n0 post : In} {A B : List (List SV)} (e0 : n0.map (·.2) = A ++ slB d s ++ B) : LiesD d (In.mem (pre ++ n0 ++ post)) (slV d s (pre.length + A.length)) s.l := by
  refine lies_in hd hok.2.2.2.1 hok.2.2.2.2 ?_
  rcases slB_cases d s with h | h
  · exact .inl h
  · refine .inr ⟨_, h, ?_⟩
    rw [h] at e0
    obtain ⟨t, ht⟩ := blk_at e0 (j := A.length) (c := s.l.flatMap d.enc) (by simp) pre post
    exact In.get (x := (t, _)) ht
end
abbrev iF : Fl Int := Fl.int .i64
theorem iF_even : iF.Even := ⟨fun _ => rfl⟩
theorem _root_.Go.Sh.LiesD.iaddrI {m : Mem} {v : SV} {l : List Int} (h : LiesD iF m v l) {i : Int} (h0 : 0 ≤ i) (hi : i < l.length) (k : IntKind) (m' : Mem) : iaddrV 1 v (.int k i) m' = some (.ptr (.hp (slN v) (slW v)) (slO v + i.toNat), m') := by
  have := LiesD.iaddr h (i := i.toNat) (by omega) k m'
  rw [show iF.sz = 1 from rfl, Nat.mul_one, Int.toNat_of_nonneg h0] at this
  exact this
theorem _root_.Go.Sh.LiesD.loadI {m : Mem} {v : SV} {l : List Int} (h : LiesD iF m v l) {i : Nat} {a : Int} (hi : l[i]? = some a) {X : Mem} (hX : HpSub m X) : X.load (.hp (slN v) (slW v)) (slO v + i) none = some (.int .i64 a) := by
  have := LiesD.load1 iF_even (h.sub hX) hi (j := 0) (by decide)
  rw [show iF.sz = 1 from rfl, Nat.mul_one, Nat.add_zero] at this
  exact this
abbrev fieldC (p : WP) (W : Wd) (cl : Int) (lv : SV) (ep : Int) : List SV := [.ptr (.hp p.k 0) 0, .int .i64 cl, .int .i64 0, .int .i64 0, .int .i64 W.w, .int .i64 W.h, lv, .int .i64 ep]
structure FieldAt (m : Mem) (k : Nat) (p : WP) (W : Wd) (cl : Int) (lv : SV) (ep : Int) (L : List Int) : Prop where
  hd : m.get (.hp k 0) = some (.cells true (fieldC p W cl lv ep))
  ll : LiesD iF m lv L
  len : L.length = W.w.toNat * W.h.toNat
  w1 : 1 ≤ W.w ∧ W.w ≤ 128
  h1 : 1 ≤ W.h ∧ W.h ≤ 128
theorem FieldAt.sub {m : Mem} {k : Nat} {p : WP} {W : Wd} {cl : Int} {lv : SV} {ep : Int} {L : List Int} (hF : FieldAt m k p W cl lv ep L) {X : Mem} (hX : HpSub m X) : FieldAt X k p W cl lv ep L := ⟨hX _ _ _ hF.hd, hF.ll.sub hX, hF.len, hF.w1, hF.h1⟩
/-- An order: what comes ahead. -/
structure OrdB {β : Type} (lt : β → β → Bool) : Prop where
  as : ∀ a b, lt a b = true → lt b a = false
  tr : ∀ a b c, lt b a = false → lt c b = false → lt c a = false
section
variable {β : Type} {lt : β → β → Bool}
theorem OrdB.rf (h : OrdB lt) (a : β) : lt a a = false := by
  cases h1 : lt a a with
  | false => rfl
  | true => rw [h.as a a h1] at h1; cases h1
def swp (L : List β) (i j : Nat) : List β := match L[i]?, L[j]? with
  | some a, some b => (L.set i b).set j a
  | _, _ => L
theorem swp_eq {L : List β} {i j : Nat} {a b : β} (hi : L[i]? = some a) (hj : L[j]? = some b) : swp L i j = (L.set i b).set j a := by simp only [swp, hi, hj]
theorem lt_of_get {L : List β} {i : Nat} {a : β} (h : L[i]? = some a) : i < L.length := by
  rcases Nat.lt_or_ge i L.length with h1 | h1
  · exact h1
  · rw [List.getElem?_eq_none h1] at h; cases h
theorem swp_len (L : List β) (i j : Nat) : (swp L i j).length = L.length := by
  unfold swp
  split <;> simp
theorem swp_perm (L : List β) (i j : Nat) : (swp L i j).Perm L := by
  unfold swp
  split
  · rename_i a b h1 h2
    have l1 := lt_of_get h1
    have l2 := lt_of_get h2
    have e1 : L[i] = a := by rw [List.getElem?_eq_getElem l1] at h1; exact Option.some.inj h1
    have e2 : L[j] = b := by rw [List.getElem?_eq_getElem l2] at h2; exact Option.some.inj h2
    rw [← e1, ← e2]
    exact List.set_set_perm l1 l2
  · exact List.Perm.refl _
theorem swp_get {L : List β} {i j : Nat} {a b : β} (hi : L[i]? = some a) (hj : L[j]? = some b) (n : Nat) : (swp L i j)[n]? = if n = j then some a else if n = i then some b else L[n]? := by
  have l1 := lt_of_get hi
  have l2 := lt_of_get hj
  rw [swp_eq hi hj, List.getElem?_set, List.getElem?_set]
  by_cases h1 : n = j
  · subst h1
    simp [l2]
  · by_cases h2 : n = i
    · subst h2
      simp [h1, Ne.symm h1, l1]
    · simp [h1, h2, Ne.symm h1, Ne.symm h2]
/-- In order, but for some. -/
def HOk (lt : β → β → Bool) (L : List β) (P : Nat → Prop) : Prop := ∀ j a b, 0 < j → P j → L[(j - 1) / 2]? = some a → L[j]? = some b → lt b a = false
def upH (lt : β → β → Bool) : Nat → Nat → List β → List β
  | 0, _, L => L
  | f + 1, i, L => if i = 0 then L else match L[i]?, L[(i - 1) / 2]? with
    | some a, some b => if lt a b then upH lt f ((i - 1) / 2) (swp L i ((i - 1) / 2)) else L
    | _, _ => L
theorem up_perm : ∀ (f i : Nat) (L : List β), (upH lt f i L).Perm L
  | 0, _, L => List.Perm.refl _
  | f + 1, i, L => by
    simp only [upH]
    split
    · exact List.Perm.refl _
    · split
      · split
        · exact (up_perm f _ _).trans (swp_perm _ _ _)
        · exact List.Perm.refl _
      · exact List.Perm.refl _
/-- Which child is looked at. -/
def kidH (lt : β → β → Bool) (L : List β) (i : Nat) : Nat := match L[2 * i + 1]?, L[2 * i + 1 + 1]? with
  | some a, some b => if lt b a then 2 * i + 1 + 1 else 2 * i + 1
  | _, _ => 2 * i + 1
def downH (lt : β → β → Bool) : Nat → Nat → List β → List β
  | 0, _, L => L
  | f + 1, i, L => match L[kidH lt L i]?, L[i]? with
    | some a, some b => if lt a b then downH lt f (kidH lt L i) (swp L i (kidH lt L i)) else L
    | _, _ => L
theorem down_perm : ∀ (f i : Nat) (L : List β), (downH lt f i L).Perm L
  | 0, _, L => List.Perm.refl _
  | f + 1, i, L => by
    simp only [downH]
    split
    · split
      · exact (down_perm f _ _).trans (swp_perm _ _ _)
      · exact List.Perm.refl _
    · exact List.Perm.refl _
theorem kid_in (lt : β → β → Bool) (L : List β) (i : Nat) : kidH lt L i = 2 * i + 1 ∨ kidH lt L i = 2 * i + 1 + 1 := by
  unfold kidH
  split
  · split
    · exact .inr rfl
    · exact .inl rfl
  · exact .inl rfl
theorem kid_some (lt : β → β → Bool) (L : List β) (i : Nat) (h : kidH lt L i = 2 * i + 1 + 1) : 2 * i + 1 + 1 < L.length := by
  unfold kidH at h
  split at h
  · rename_i x y hx hy
    exact lt_of_get hy
  · omega
theorem kid_le (hlt : OrdB lt) {L : List β} {i : Nat} {a : β} (ha : L[kidH lt L i]? = some a) {j : Nat} {b : β} (hj : 0 < j) (hji : (j - 1) / 2 = i) (hb : L[j]? = some b) : lt b a = false := by
  have hjj : j = 2 * i + 1 ∨ j = 2 * i + 1 + 1 := by omega
  unfold kidH at ha
  split at ha
  · rename_i x y hx hy
    split at ha
    · rename_i hxy
      rw [hy] at ha; cases ha
      rcases hjj with rfl | rfl
      · rw [hx] at hb; cases hb
        exact hlt.as _ _ hxy
      · rw [hy] at hb; cases hb
        exact hlt.rf _
    · rename_i hxy
      rw [hx] at ha; cases ha
      rcases hjj with rfl | rfl
      · rw [hx] at hb; cases hb
        exact hlt.rf _
      · rw [hy] at hb; cases hb
        simpa using hxy
  · rename_i hno
    rcases hjj with rfl | rfl
    · rw [ha] at hb; cases hb
      exact hlt.rf _
    · exact absurd hb (by intro h; exact hno a b ha h)
theorem down_ok (hlt : OrdB lt) : ∀ (f i : Nat) (L : List β), L.length ≤ i + f → i < L.length → HOk lt L (fun j => (j - 1) / 2 ≠ i) → (∀ j a b, 0 < j → (j - 1) / 2 = i → 0 < i → L[(i - 1) / 2]? = some a → L[j]? = some b → lt b a = false) → HOk lt (downH lt f i L) (fun _ => True)
  | 0, i, L, hf, hi, _, _ => by omega
  | f + 1, i, L, hf, hi, hA, hB => by
    simp only [downH]
    have hk := kid_in lt L i
    have hks := kid_some lt L i
    have hkl := fun a (ha : L[kidH lt L i]? = some a) => fun j b => @kid_le β lt hlt L i a ha j b
    generalize kidH lt L i = k at hk hks hkl ⊢
    obtain ⟨b, hb⟩ : ∃ b, L[i]? = some b := ⟨_, List.getElem?_eq_getElem hi⟩
    rw [hb]
    cases ha : L[k]? with
    | none =>
      dsimp only
      intro j x y hj _ h1 h2
      by_cases hji : (j - 1) / 2 = i
      · exfalso
        have l1 := lt_of_get h2
        rcases Nat.lt_or_ge k L.length with h | h
        · rw [List.getElem?_eq_getElem h] at ha; cases ha
        · by_cases h5 : k = 2 * i + 1 + 1
          · have := hks h5; omega
          · omega
      · exact hA j x y hj hji h1 h2
    | some a =>
      dsimp only
      have hkl := hkl a ha
      by_cases hab : lt a b = true
      · rw [if_pos hab]
        have hg := swp_get hb ha
        have hkn := lt_of_get ha
        refine down_ok hlt f k (swp L i k) (by rw [swp_len]; omega) (by rw [swp_len]; exact hkn) ?_ ?_
        · intro j x y hj hjp h1 h2
          rw [hg] at h1 h2
          rw [if_neg hjp] at h1
          by_cases hjk : j = k
          · rw [if_pos hjk] at h2
            rw [if_pos (by omega)] at h1
            cases h1; cases h2
            exact hlt.as _ _ hab
          · rw [if_neg hjk] at h2
            by_cases hji : j = i
            · rw [if_pos hji] at h2
              cases h2
              subst hji
              rw [if_neg (by omega)] at h1
              exact hB k x a (by omega) (by omega) hj h1 ha
            · rw [if_neg hji] at h2
              by_cases hpi : (j - 1) / 2 = i
              · rw [if_pos hpi] at h1
                cases h1
                exact hkl j y hj hpi h2
              · rw [if_neg hpi] at h1
                exact hA j x y hj hpi h1 h2
        · intro j x y hj hjp hpos h1 h2
          rw [hg] at h1 h2
          rw [if_neg (by omega), if_pos (by omega)] at h1
          cases h1
          rw [if_neg (by omega), if_neg (by omega)] at h2
          exact hA j a y hj (by omega) (by rw [hjp]; exact ha) h2
      · rw [if_neg hab]
        intro j x y hj _ h1 h2
        by_cases hji : (j - 1) / 2 = i
        · rw [hji, hb] at h1
          cases h1
          exact hlt.tr _ _ _ (by simpa using hab) (hkl j y hj hji h2)
        · exact hA j x y hj hji h1 h2
end
abbrev It := Int × Int × Int
abbrev itF : Fl It := Fl.pair (Fl.int .i64) (Fl.pair (Fl.int .i64) (Fl.int .i64))
theorem itF_even : itF.Even := ⟨fun _ => rfl⟩
def aheadI (a b : Int) : Bool := decide (a / 4 < b / 4)
def hlt (a b : It) : Bool := aheadI a.1 b.1 || (!aheadI b.1 a.1 && decide (a.2.2 < b.2.2))
theorem hlt_ord : OrdB hlt := by
  constructor
  · intro a b h
    simp only [hlt, aheadI, Bool.or_eq_true, Bool.and_eq_true, Bool.not_eq_true', decide_eq_true_eq, decide_eq_false_iff_not, Bool.or_eq_false_iff, Bool.and_eq_false_iff, Bool.not_eq_false'] at h ⊢
    omega
  · intro a b c h1 h2
    simp only [hlt, aheadI, Bool.or_eq_true, Bool.and_eq_true, Bool.not_eq_true', decide_eq_true_eq, decide_eq_false_iff_not, Bool.or_eq_false_iff, Bool.and_eq_false_iff, Bool.not_eq_false'] at h1 h2 ⊢
    omega
theorem fdiv4 (x : Int) : x.fdiv (2 ^ min 2 64) = x / 4 := by
  show x.fdiv 4 = x / 4
  exact Int.fdiv_eq_ediv_of_nonneg x (by decide)
theorem r_law09_ahead (m : Mem) (hm : m.Wf) (a b c d : Int) : RF tb f_law09_ahead [.agg [.int .i64 a, .int .i64 b], .agg [.int .i64 c, .int .i64 d]] m = some (.bool (aheadI a c), m) := by
  rw [RF_go t_law09_ahead _ _ rfl]
  simp (maxDischargeDepth := 8) only [go_sem, reduceIte, reduceCtorEq, Nat.reduceEqDiff, Nat.reduceAdd, Nat.reduceMul, Nat.reduceSub, Nat.reduceLeDiff, Nat.reduceLT, Nat.reduceBEq, Int.reduceToNat, Int.reduceEq, Int.reduceLT, Int.reduceLE, Int.reduceAdd, Int.reduceSub, Int.reduceMul, Int.reduceNeg, s_law09_ahead, hm, fdiv4]
  rfl
abbrev hpC (hv : SV) (n : Int) : List SV := [.fn f_law09_ahead [] [], hv, .int .i64 n]
theorem r_heap_first {m : Mem} {k : Nat} {hv : SV} {n : Int} {L : List It} (hd : m.get (.hp k 0) = some (.cells true (hpC hv n))) (hl : LiesD itF m hv L) {i j : Nat} {a b : It} (hi : L[i]? = some a) (hj : L[j]? = some b) {X : Mem} (hX : HpSub m X) (hw : X.Wf) : RF tb f_heap_Heap_law09_Item_first [.ptr (.hp k 0) 0, .int .i64 (i : Int), .int .i64 (j : Int)] X = some (.bool (hlt a b), X) := by
  have hld : ∀ {Y : Mem}, HpSub m Y → ∀ off q, Y.load (.hp k 0) off q = partv (hpC hv n) off q := fun hY off q => by rw [load_get, hY _ _ _ hd]
  have li : i < L.length := lt_of_get hi
  have lj : j < L.length := lt_of_get hj
  have ai := fun (q : IntKind) (Y : Mem) => LiesD.iaddr hl li q Y
  have aj := fun (q : IntKind) (Y : Mem) => LiesD.iaddr hl lj q Y
  have bi := fun {Y : Mem} (hY : HpSub m Y) => LiesD.loadX itF_even (by decide) hl hi hY
  have bj := fun {Y : Mem} (hY : HpSub m Y) => LiesD.loadX itF_even (by decide) hl hj hY
  obtain ⟨a1, a2, a3⟩ := a
  obtain ⟨b1, b2, b3⟩ := b
  change ∀ (q : IntKind) (Y : Mem), iaddrV 3 hv (.int q (i : Int)) Y = some (.ptr (.hp (slN hv) (slW hv)) (slO hv + i * 3), Y) at ai
  change ∀ (q : IntKind) (Y : Mem), iaddrV 3 hv (.int q (j : Int)) Y = some (.ptr (.hp (slN hv) (slW hv)) (slO hv + j * 3), Y) at aj
  have bi' : ∀ {Y : Mem}, HpSub m Y → Y.load (.hp (slN hv) (slW hv)) (slO hv + i * 3) (some 3) = some (.agg [.int .i64 a1, .int .i64 a2, .int .i64 a3]) := fun hY => bi hY
  have bj' : ∀ {Y : Mem}, HpSub m Y → Y.load (.hp (slN hv) (slW hv)) (slO hv + j * 3) (some 3) = some (.agg [.int .i64 b1, .int .i64 b2, .int .i64 b3]) := fun hY => bj hY
  rw [RF_go t_heap_Heap_law09_Item_first _ _ rfl]
  simp (maxDischargeDepth := 8) only [go_sem, reduceIte, reduceCtorEq, Nat.reduceEqDiff, Nat.reduceAdd, Nat.reduceMul, Nat.reduceSub, Nat.reduceLeDiff, Nat.reduceLT, Nat.reduceBEq, Int.reduceToNat, Int.reduceEq, Int.reduceLT, Int.reduceLE, Int.reduceAdd, Int.reduceSub, Int.reduceMul, Int.reduceNeg, s_heap_Heap_law09_Item_first, hw, hX, hld, hpC, ai, aj, bi', bj', RV_fn, List.nil_append, List.append_nil, r_law09_ahead]
  unfold hlt
  dsimp only
  cases h1 : aheadI a1 b1 with
  | true => simp (maxDischargeDepth := 8) only [go_sem, reduceIte, reduceCtorEq, Nat.reduceEqDiff, Nat.reduceAdd, Nat.reduceMul, Nat.reduceSub, Nat.reduceLeDiff, Nat.reduceLT, Nat.reduceBEq, Int.reduceToNat, Int.reduceEq, Int.reduceLT, Int.reduceLE, Int.reduceAdd, Int.reduceSub, Int.reduceMul, Int.reduceNeg, hw]; rfl
  | false =>
    simp (maxDischargeDepth := 8) only [go_sem, reduceIte, reduceCtorEq, Nat.reduceEqDiff, Nat.reduceAdd, Nat.reduceMul, Nat.reduceSub, Nat.reduceLeDiff, Nat.reduceLT, Nat.reduceBEq, Int.reduceToNat, Int.reduceEq, Int.reduceLT, Int.reduceLE, Int.reduceAdd, Int.reduceSub, Int.reduceMul, Int.reduceNeg, hw, hX, hld, hpC, RV_fn, List.nil_append, List.append_nil, r_law09_ahead]
    cases h2 : aheadI b1 a1 with
    | true => simp (maxDischargeDepth := 8) only [go_sem, reduceIte, reduceCtorEq, Nat.reduceEqDiff, Nat.reduceAdd, Nat.reduceMul, Nat.reduceSub, Nat.reduceLeDiff, Nat.reduceLT, Nat.reduceBEq, Int.reduceToNat, Int.reduceEq, Int.reduceLT, Int.reduceLE, Int.reduceAdd, Int.reduceSub, Int.reduceMul, Int.reduceNeg, hw]; rfl
    | false => simp (maxDischargeDepth := 8) only [go_sem, reduceIte, reduceCtorEq, Nat.reduceEqDiff, Nat.reduceAdd, Nat.reduceMul, Nat.reduceSub, Nat.reduceLeDiff, Nat.reduceLT, Nat.reduceBEq, Int.reduceToNat, Int.reduceEq, Int.reduceLT, Int.reduceLE, Int.reduceAdd, Int.reduceSub, Int.reduceMul, Int.reduceNeg, hw]; rfl
theorem itF_ok (l : List It) : SV.cellsOk 0 0 (l.flatMap itF.enc) = true := cellsOk_flat (fun _ => rfl) l
theorem hxs_it (l : List It) : SV.hxs (l.flatMap itF.enc) = 0 := by induction l with | nil => rfl | cons a l ih => simp only [List.flatMap_cons]; exact ih
def capN : SV → Bool
  | .sl _ _ _ (some _) _ => false
  | _ => true
theorem app_cap {esz bytes : Nat} {z : List SV} {aw : Bk → Bool} {x y v : SV} {m m' : Mem} (h : appV esz bytes z aw x y m = some (v, m')) (hx : capN x = true) : capN v = true := by
  unfold appV at h
  split at h
  · rename_i sl n h1 h2
    rw [Option.bind_eq_some_iff] at h
    obtain ⟨new, _, h⟩ := h
    split at h
    · cases h; exact hx
    · split at h
      · split at h
        · rw [Option.map_eq_some_iff] at h
          obtain ⟨q, _, h⟩ := h
          cases h; rfl
        · rw [Option.map_eq_some_iff] at h
          obtain ⟨q, _, h⟩ := h
          cases h; rfl
        · rw [Option.bind_eq_some_iff] at h
          obtain ⟨old, _, h⟩ := h
          split at h
          · split at h
            · rw [Option.map_eq_some_iff] at h
              obtain ⟨q, _, h⟩ := h
              cases h; rfl
            · split at h
              · split at h
                · cases h; rfl
                · cases h
              · cases h
          · cases h
        · cases h
      · cases h
  · cases h
structure HeapOwn (H : Hp) (k : Nat) (hv : SV) (n : Int) (L : List It) : Prop where
  hd : hget H k 0 = some (.cells true (hpC hv n))
  ow : Own itF H hv L
  nk : k ∉ slFp hv
  cp : capN hv = true
abbrev itV (a : It) : SV := .agg [.int .i64 a.1, .int .i64 a.2.1, .int .i64 a.2.2]
theorem storeIt {H : Hp} {v : SV} {l : List It} (hv : Own itF H v l) {i : Nat} (hi : i < l.length) (X : Mem) (hm : ∀ i ∈ slFp v, X.hb ≤ i) (a : It) :
    ∃ H', (∀ f e, ((X.hp H).fr f e).store (.hp (slN v) (slW v)) (slO v + i * 3) [.int .i64 a.1, .int .i64 a.2.1, .int .i64 a.2.2] = some ((X.hp H').fr f e)) ∧ Own itF H' v (l.set i a) ∧ Keep (slFp v) H H' ∧ H'.length = H.length := by
  obtain ⟨H', h1, h2⟩ := store_own itF_even (by decide) (fun _ => rfl) (fun _ => rfl) hv hi X hm a
  exact ⟨H', h1, h2⟩
theorem r_heap_Len {m : Mem} {k : Nat} {hv : SV} {n : Int} {L : List It} (hd : m.get (.hp k 0) = some (.cells true (hpC hv n))) (hl : LiesD itF m hv L) {X : Mem} (hX : HpSub m X) (hw : X.Wf) : RF tb f_heap_Heap_law09_Item_Len [.ptr (.hp k 0) 0] X = some (.int .i64 (L.length : Int), X) := by
  have hld : ∀ {Y : Mem}, HpSub m Y → ∀ off q, Y.load (.hp k 0) off q = partv (hpC hv n) off q := fun hY off q => by rw [load_get, hY _ _ _ hd]
  rw [RF_go t_heap_Heap_law09_Item_Len _ _ rfl]
  simp (maxDischargeDepth := 8) only [go_sem, reduceIte, reduceCtorEq, Nat.reduceEqDiff, Nat.reduceAdd, Nat.reduceMul, Nat.reduceSub, Nat.reduceLeDiff, Nat.reduceLT, Nat.reduceBEq, Int.reduceToNat, Int.reduceEq, Int.reduceLT, Int.reduceLE, Int.reduceAdd, Int.reduceSub, Int.reduceMul, Int.reduceNeg, s_heap_Heap_law09_Item_Len, hw, hX, hld, hpC, hl.len]
theorem r_heap_Top {m : Mem} {k : Nat} {hv : SV} {n : Int} {L : List It} (hd : m.get (.hp k 0) = some (.cells true (hpC hv n))) (hl : LiesD itF m hv L) {X : Mem} (hX : HpSub m X) (hw : X.Wf) : RF tb f_heap_Heap_law09_Item_Top [.ptr (.hp k 0) 0] X = some (.tup [.agg [.int .i64 (L.headD (0, 0, 0)).1, .int .i64 (L.headD (0, 0, 0)).2.1], .bool (decide (0 < L.length))], X) := by
  have hld : ∀ {Y : Mem}, HpSub m Y → ∀ off q, Y.load (.hp k 0) off q = partv (hpC hv n) off q := fun hY off q => by rw [load_get, hY _ _ _ hd]
  rw [RF_go t_heap_Heap_law09_Item_Top _ _ rfl]
  simp (maxDischargeDepth := 8) only [go_sem, reduceIte, reduceCtorEq, Nat.reduceEqDiff, Nat.reduceAdd, Nat.reduceMul, Nat.reduceSub, Nat.reduceLeDiff, Nat.reduceLT, Nat.reduceBEq, Int.reduceToNat, Int.reduceEq, Int.reduceLT, Int.reduceLE, Int.reduceAdd, Int.reduceSub, Int.reduceMul, Int.reduceNeg, s_heap_Heap_law09_Item_Top, hw, hX, r_heap_Len hd hl]
  cases L with
  | nil => simp (maxDischargeDepth := 8) only [go_sem, reduceIte, reduceCtorEq, Nat.reduceEqDiff, Nat.reduceAdd, Nat.reduceMul, Nat.reduceSub, Nat.reduceLeDiff, Nat.reduceLT, Nat.reduceBEq, Int.reduceToNat, Int.reduceEq, Int.reduceLT, Int.reduceLE, Int.reduceAdd, Int.reduceSub, Int.reduceMul, Int.reduceNeg, hw, show (((([] : List It).length : Nat) : Int) == 0) = true from rfl, show ((0 : Int) == 0) = true from rfl]; rfl
  | cons a L =>
    simp (maxDischargeDepth := 8) only [go_sem, reduceIte, reduceCtorEq, Nat.reduceEqDiff, Nat.reduceAdd, Nat.reduceMul, Nat.reduceSub, Nat.reduceLeDiff, Nat.reduceLT, Nat.reduceBEq, Int.reduceToNat, Int.reduceEq, Int.reduceLT, Int.reduceLE, Int.reduceAdd, Int.reduceSub, Int.reduceMul, Int.reduceNeg, hw, hX, hld, hpC, show (((L.length + 1 : Nat) : Int) == 0) = false from by simp; omega]
    have a0 : ∀ (q : IntKind) (Y : Mem), iaddrV 3 hv (.int q 0) Y = some (.ptr (.hp (slN hv) (slW hv)) (slO hv), Y) := fun q Y => LiesD.iaddr0 hl q Y
    have b0 : ∀ {Y : Mem}, HpSub m Y → Y.load (.hp (slN hv) (slW hv)) (slO hv) (some 2) = some (.agg [.int .i64 a.1, .int .i64 a.2.1]) := fun hY => by
      have h1 : Lies _ 3 hv (a :: L).length ((a :: L).flatMap itF.enc) := hl.sub hY
      exact h1.loadN (o := 0) (k := 2) (by decide) (by simp; omega)
    simp (maxDischargeDepth := 8) only [go_sem, reduceIte, reduceCtorEq, Nat.reduceEqDiff, Nat.reduceAdd, Nat.reduceMul, Nat.reduceSub, Nat.reduceLeDiff, Nat.reduceLT, Nat.reduceBEq, Int.reduceToNat, Int.reduceEq, Int.reduceLT, Int.reduceLE, Int.reduceAdd, Int.reduceSub, Int.reduceMul, Int.reduceNeg, hw, hX, a0, b0]
    simp
theorem r_heap_New {X : Mem} (hw : X.Wf) : RF tb f_heap_New_law09_Item [.fn f_law09_ahead [] []] X = some (.ptr (.hp X.hl 0) 0, X.hp (X.heap ++ [(0, .cells true (hpC .nils 0))])) := by
  rw [RF_go t_heap_New_law09_Item _ _ rfl, push_hp]
  simp (maxDischargeDepth := 8) only [go_sem, reduceIte, reduceCtorEq, Nat.reduceEqDiff, Nat.reduceAdd, Nat.reduceMul, Nat.reduceSub, Nat.reduceLeDiff, Nat.reduceLT, Nat.reduceBEq, Int.reduceToNat, Int.reduceEq, Int.reduceLT, Int.reduceLE, Int.reduceAdd, Int.reduceSub, Int.reduceMul, Int.reduceNeg, s_heap_New_law09_Item, hw]
  rw [if_neg (by show ¬ X.heap.length + 1 ≤ X.heap.length; omega)]
  rfl
theorem endOwn {X : Mem} {k : Nat} {hv : SV} {n : Int} {L : List It} {A : Hp} {u : Option Nat} (hd : hget A k 0 = some (.cells true (hpC hv n))) (ow : Own itF A hv L) (nk : k ∉ slFp hv) (cp : capN hv = true) (he : (∀ i ∈ slFp hv, i < X.hl) ∨ escOk X.hl u = false) (hk : k < X.hl) : HeapOwn (if escOk X.hl u = true then A.take X.hl else A) k hv n L :=
  ⟨by rw [hget_congr (fin_keep0 (.inl hk))]; exact hd, ow.congr fun i hi => fin_keep0 (by
    rcases he with h | h
    · exact .inl (h i hi)
    · exact .inr h), nk, cp⟩
theorem r_heap_PushE {X : Mem} {k : Nat} {hv : SV} {n : Int} {L : List It} (hO : HeapOwn X.heap k hv n L) (hb : L.length ≤ 4000000) (hn : 0 ≤ n ∧ n ≤ 1000000000) (hk : X.hb ≤ k) (hm : ∀ i ∈ slFp hv, X.hb ≤ i) (hw : X.Wf) (a b : Int) :
    ∃ hv' H' u, RF tb f_heap_Heap_law09_Item_Push [.ptr (.hp k 0) 0, .agg [.int .i64 a, .int .i64 b]] X = some (.tup [], (X.hp H').es (escMin X.esc u)) ∧ HeapOwn H' k hv' (n + 1) (upH hlt (L.length + 1) L.length (L ++ [(a, b, n)])) ∧ Keep (k :: slFp hv) X.heap H' ∧ (∀ i ∈ slFp hv', i ∈ slFp hv ∨ X.heap.length ≤ i) ∧ ((∀ i ∈ slFp hv', i < k) ∨ u = some k) := by
  rw [RF_go t_heap_Heap_law09_Item_Push _ _ rfl, push_hp]
  generalize hH : X.heap = H at *
  have hHl : X.hl = H.length := by rw [← hH]; rfl
  obtain ⟨hd, ow, nk, cp⟩ := hO
  have hld : ∀ off q, loadO (hget H k 0) off q = partv (hpC hv n) off q := fun off q => by rw [hd]; rfl
  have s1 := ow.isSl itF_even
  obtain ⟨H1, hH1⟩ : ∃ H1, H ++ [(0, SBk.cells true [.int .i64 a, .int .i64 b, .int .i64 n])] = H1 := ⟨_, rfl⟩
  have k1 : Keep [] H H1 := by rw [← hH1]; exact Keep.app _ _ _
  have l1 : H1.length = H.length + 1 := by rw [← hH1, List.length_append]; rfl
  have hyl : LiesD itF (Hm H1) (.sl (.hp H.length 0) 0 1 (some 1) 3) [(a, b, n)] := by rw [← hH1]; exact (own_new itF_even H [(a, b, n)] (some 1)).lies itF_even
  obtain ⟨hv', H2, ha, o1, o2, o3, ⟨o4, o5, o6⟩, o7⟩ := app_own itF_even (by decide) itF_ok hxs_it (ow.keep k1 (by simp)) hyl (bytes := 24) (by simp only [List.length_singleton, two48]; omega) (by simp only [List.length_singleton, two48]; omega) X hm
  have ha' := ha [.int .i64 0, .int .i64 0, .int .i64 0] rfl (fun _ => true) (ow.aw (fun _ _ => rfl))
  change ∀ f e, appV 3 24 [.int .i64 0, .int .i64 0, .int .i64 0] (fun _ => true) hv (.sl (.hp H.length 0) 0 1 (some 1) 3) _ = _ at ha'
  have s2 := o1.isSl itF_even
  have cp' : capN hv' = true := app_cap (ha' [] none) cp
  have kl : k < H.length := hget_lt hd
  have nk' : k ∉ slFp hv' := fun h => by
    rcases o3 k h with h | h
    · exact nk h
    · omega
  have hd2 : hget H2 k 0 = some (.cells true (hpC hv n)) := o2.get (k1.get hd (by simp)) nk
  simp (maxDischargeDepth := 8) only [go_sem, reduceIte, reduceCtorEq, Nat.reduceEqDiff, Nat.reduceAdd, Nat.reduceMul, Nat.reduceSub, Nat.reduceLeDiff, Nat.reduceLT, Nat.reduceBEq, Int.reduceToNat, Int.reduceEq, Int.reduceLT, Int.reduceLE, Int.reduceAdd, Int.reduceSub, Int.reduceMul, Int.reduceNeg, s_heap_Heap_law09_Item_Push, hw, hH, hd, hpC, hH1, ha', s1.l, s2.l, s2.c, s2.k, s2.o, hd2, hk]
  have kl2 : k < H2.length := hget_lt hd2
  obtain ⟨H3, hH3⟩ : ∃ H3, H2.set k (0, SBk.cells true [.fn f_law09_ahead [] [], hv', .int .i64 n]) = H3 := ⟨_, rfl⟩
  have hd3 : hget H3 k 0 = some (.cells true [.fn f_law09_ahead [] [], hv', .int .i64 n]) := by rw [← hH3, hget_set_eq kl2, if_pos rfl]
  have k3 : Keep [k] H2 H3 := by rw [← hH3]; exact Keep.set (by simp) _ _
  have l3 : H3.length = H2.length := by rw [← hH3, List.length_set]
  rw [hH3]
  have he0 : (∀ i ∈ slFp hv', i < X.hl) ∨ escOk X.hl (if hv'.hx ≤ k then none else some k) = false := by
    by_cases h : hv'.hx ≤ k
    · exact .inl fun i hi => by rw [hx_fp hi] at h; omega
    · rw [if_neg h]; exact .inr (escOk_some (by omega))
  have hek : (∀ i ∈ slFp hv', i < k) ∨ (if hv'.hx ≤ k then none else some k) = some k := by
    by_cases h : hv'.hx ≤ k
    · exact .inl fun i hi => by rw [hx_fp hi] at h; omega
    · rw [if_neg h]; exact .inr rfl
  generalize (if hv'.hx ≤ k then none else some k) = e0 at he0 hek ⊢
  simp (maxDischargeDepth := 8) only [go_sem, reduceIte, reduceCtorEq, Nat.reduceEqDiff, Nat.reduceAdd, Nat.reduceMul, Nat.reduceSub, Nat.reduceLeDiff, Nat.reduceLT, Nat.reduceBEq, Int.reduceToNat, Int.reduceEq, Int.reduceLT, Int.reduceLE, Int.reduceAdd, Int.reduceSub, Int.reduceMul, Int.reduceNeg, hw, hd3, s2.l, s2.c, s2.k, s2.o, hk, wrap_small (x := n + 1) (by omega) (by omega)]
  obtain ⟨H4, hH4⟩ : ∃ H4, H3.set k (0, SBk.cells true [.fn f_law09_ahead [] [], hv', .int .i64 (n + 1)]) = H4 := ⟨_, rfl⟩
  have hd4 : hget H4 k 0 = some (.cells true [.fn f_law09_ahead [] [], hv', .int .i64 (n + 1)]) := by rw [← hH4, hget_set_eq (by omega), if_pos rfl]
  have k4 : Keep [k] H3 H4 := by rw [← hH4]; exact Keep.set (by simp) _ _
  have l4 : H4.length = H3.length := by rw [← hH4, List.length_set]
  have o1' : Own itF H4 hv' (L ++ [(a, b, n)]) := (o1.keep k3 (fun i hi h => nk' (by rw [List.mem_singleton] at h; rw [← h]; exact hi))).keep k4 (fun i hi h => nk' (by rw [List.mem_singleton] at h; rw [← h]; exact hi))
  rw [hH4]
  have hfp : ∀ i ∈ slFp hv', i ∈ slFp hv ∨ H.length ≤ i := fun i hi => by
    rcases o3 i hi with h | h
    · exact .inl h
    · exact .inr (by omega)
  have kHk : Keep (k :: slFp hv) H H4 := ((((Keep.weak (T := k :: slFp hv) k1 (by simp)).trans' o2 (fun n hn _ => List.mem_cons_of_mem _ hn)).trans' k3 (fun n hn _ => by rw [List.mem_singleton] at hn; rw [hn]; exact List.mem_cons_self)).trans' k4 (fun n hn _ => by rw [List.mem_singleton] at hn; rw [hn]; exact List.mem_cons_self))
  have hm' : ∀ i ∈ slFp hv', X.hb ≤ i := fun i hi => by
    rcases hfp i hi with h | h
    · exact hm i h
    · have := hget_lt hd; omega
  simp (maxDischargeDepth := 8) only [go_sem, reduceIte, reduceCtorEq, Nat.reduceEqDiff, Nat.reduceAdd, Nat.reduceMul, Nat.reduceSub, Nat.reduceLeDiff, Nat.reduceLT, Nat.reduceBEq, Int.reduceToNat, Int.reduceEq, Int.reduceLT, Int.reduceLE, Int.reduceAdd, Int.reduceSub, Int.reduceMul, Int.reduceNeg, hw, hd4, s2.l, s2.c, s2.k, s2.o, hk, (o1'.lies itF_even).len, show ((L ++ [(a, b, n)]).length : Int) = ((L.length + 1 : Nat) : Int) from by simp, wrap_small (x := ((L.length + 1 : Nat) : Int) - 1) (by omega) (by omega)]
  rw [show ((L.length + 1 : Nat) : Int) - 1 = (L.length : Int) from by omega]
  rw [KL_keep _ _ _ (by simp (maxDischargeDepth := 8) only [go_sem, reduceIte, reduceCtorEq, Nat.reduceEqDiff, Nat.reduceAdd, Nat.reduceMul, Nat.reduceSub, Nat.reduceLeDiff, Nat.reduceLT, Nat.reduceBEq, Int.reduceToNat, Int.reduceEq, Int.reduceLT, Int.reduceLE, Int.reduceAdd, Int.reduceSub, Int.reduceMul, Int.reduceNeg])]
  simp (maxDischargeDepth := 8) only [go_sem, reduceIte, reduceCtorEq, Nat.reduceEqDiff, Nat.reduceAdd, Nat.reduceMul, Nat.reduceSub, Nat.reduceLeDiff, Nat.reduceLT, Nat.reduceBEq, Int.reduceToNat, Int.reduceEq, Int.reduceLT, Int.reduceLE, Int.reduceAdd, Int.reduceSub, Int.reduceMul, Int.reduceNeg]
  generalize hRr : upH hlt (L.length + 1) L.length (L ++ [(a, b, n)]) = Rr
  refine KL_ind (R := fun z => ∃ hv' H' u, fin [] X z = some (.tup [], (X.hp H').es (escMin X.esc u)) ∧ HeapOwn H' k hv' (n + 1) Rr ∧ Keep (k :: slFp hv) H H' ∧ (∀ (i : Nat), i ∈ slFp hv' → i ∈ slFp hv ∨ H.length ≤ i) ∧ ((∀ i ∈ slFp hv', i < k) ∨ u = some k)) (α := Nat × Nat × List It × Hp) (fun q => q.1)
    (fun q => [(0, .ptr (.hp k 0) 0), (4, .int .i64 (q.1 : Int))])
    (fun q => (X.hp q.2.2.2).fr [.cells true [.int .i64 a, .int .i64 b]] e0)
    (fun q => q.1 < q.2.1 ∧ q.1 < q.2.2.1.length ∧ q.2.2.1.length = L.length + 1 ∧ Rr = upH hlt q.2.1 q.1 q.2.2.1 ∧ Own itF q.2.2.2 hv' q.2.2.1 ∧ hget q.2.2.2 k 0 = some (.cells true (hpC hv' (n + 1))) ∧ Keep (k :: slFp hv) H q.2.2.2) ?_ (L.length, L.length + 1, L ++ [(a, b, n)], H4) ⟨Nat.lt_succ_self _, by simp, by simp, hRr.symm, o1', hd4, kHk⟩
  clear o1' hd4 kHk hRr
  rintro ⟨i, f, Lc, Hc⟩ ⟨hif, hil, hlen, hup, ow, hd, kk⟩ ih
  dsimp only at hif hil hlen hup ow hd kk ⊢
  simp (maxDischargeDepth := 8) only [go_sem, reduceIte, reduceCtorEq, Nat.reduceEqDiff, Nat.reduceAdd, Nat.reduceMul, Nat.reduceSub, Nat.reduceLeDiff, Nat.reduceLT, Nat.reduceBEq, Int.reduceToNat, Int.reduceEq, Int.reduceLT, Int.reduceLE, Int.reduceAdd, Int.reduceSub, Int.reduceMul, Int.reduceNeg, hw]
  obtain ⟨f, rfl⟩ : ∃ g, f = g + 1 := ⟨f - 1, by omega⟩
  simp only [upH] at hup
  by_cases h0 : i = 0
  · subst h0
    rw [if_pos rfl] at hup
    simp (maxDischargeDepth := 8) only [go_sem, reduceIte, reduceCtorEq, Nat.reduceEqDiff, Nat.reduceAdd, Nat.reduceMul, Nat.reduceSub, Nat.reduceLeDiff, Nat.reduceLT, Nat.reduceBEq, Int.reduceToNat, Int.reduceEq, Int.reduceLT, Int.reduceLE, Int.reduceAdd, Int.reduceSub, Int.reduceMul, Int.reduceNeg, hw, show decide (((0 : Nat) : Int) > 0) = false from rfl, show decide ((0 : Int) > 0) = false from rfl]
    rw [hup]
    exact ⟨hv', _, e0, rfl, endOwn hd ow nk' cp' he0 (by omega), by rw [← hH] at kk ⊢; exact kk.back0, hfp, hek⟩
  · rw [if_neg h0] at hup
    have hq1 : IntKind.wrap .i64 ((i : Int) - 1) = ((i - 1 : Nat) : Int) := by rw [wrap_small (by omega) (by omega)]; omega
    have hq2 : Int.tdiv ((i - 1 : Nat) : Int) 2 = (((i - 1) / 2 : Nat) : Int) := rfl
    obtain ⟨x, hx⟩ : ∃ x, Lc[i]? = some x := ⟨_, List.getElem?_eq_getElem hil⟩
    obtain ⟨y, hy⟩ : ∃ y, Lc[(i - 1) / 2]? = some y := ⟨_, List.getElem?_eq_getElem (by omega)⟩
    rw [hx, hy] at hup
    dsimp only at hup
    simp (maxDischargeDepth := 8) only [go_sem, reduceIte, reduceCtorEq, Nat.reduceEqDiff, Nat.reduceAdd, Nat.reduceMul, Nat.reduceSub, Nat.reduceLeDiff, Nat.reduceLT, Nat.reduceBEq, Int.reduceToNat, Int.reduceEq, Int.reduceLT, Int.reduceLE, Int.reduceAdd, Int.reduceSub, Int.reduceMul, Int.reduceNeg, hw, show decide ((i : Int) > 0) = true from decide_eq_true (by omega), hq1, hq2, wrap_small (x := (((i - 1) / 2 : Nat) : Int)) (by omega) (by omega), r_heap_first (show (Hm Hc).get (.hp k 0) = _ from hd) (ow.lies itF_even) hx hy]
    cases hc : hlt x y with
    | false =>
      rw [hc, if_neg Bool.false_ne_true] at hup
      rw [hup]
      simp (maxDischargeDepth := 8) only [go_sem, reduceIte, reduceCtorEq, Nat.reduceEqDiff, Nat.reduceAdd, Nat.reduceMul, Nat.reduceSub, Nat.reduceLeDiff, Nat.reduceLT, Nat.reduceBEq, Int.reduceToNat, Int.reduceEq, Int.reduceLT, Int.reduceLE, Int.reduceAdd, Int.reduceSub, Int.reduceMul, Int.reduceNeg, hw]
      exact ⟨hv', _, e0, rfl, endOwn hd ow nk' cp' he0 (by omega), by rw [← hH] at kk ⊢; exact kk.back0, hfp, hek⟩
    | true =>
      rw [hc, if_pos rfl] at hup
      have ll := ow.lies itF_even
      have ai : ∀ (q : IntKind) (Y : Mem), iaddrV 3 hv' (.int q (i : Int)) Y = some (.ptr (.hp (slN hv') (slW hv')) (slO hv' + i * 3), Y) := fun q Y => LiesD.iaddr ll hil q Y
      have ap : ∀ (q : IntKind) (Y : Mem), iaddrV 3 hv' (.int q (((i - 1) / 2 : Nat) : Int)) Y = some (.ptr (.hp (slN hv') (slW hv')) (slO hv' + (i - 1) / 2 * 3), Y) := fun q Y => LiesD.iaddr ll (by omega) q Y
      have bi : ∀ {Y : Mem}, HpSub (Hm Hc) Y → Y.load (.hp (slN hv') (slW hv')) (slO hv' + i * 3) (some 3) = some (itV x) := fun hY => LiesD.loadX itF_even (by decide) ll hx hY
      have bp : ∀ {Y : Mem}, HpSub (Hm Hc) Y → Y.load (.hp (slN hv') (slW hv')) (slO hv' + (i - 1) / 2 * 3) (some 3) = some (itV y) := fun hY => LiesD.loadX itF_even (by decide) ll hy hY
      obtain ⟨H5, st5, o5, k5, l5⟩ := storeIt ow hil X hm' y
      obtain ⟨H6, st6, o6, k6, l6⟩ := storeIt o5 (i := (i - 1) / 2) (by rw [List.length_set]; omega) X hm' x
      rw [← swp_eq hx hy] at o6
      have hd6 : hget H6 k 0 = some (.cells true (hpC hv' (n + 1))) := k6.get (k5.get hd nk') nk'
      have kk6 : Keep (k :: slFp hv) H H6 := (kk.trans' k5 (fun n hn hl => List.mem_cons_of_mem _ (by rcases hfp n hn with h | h; exact h; omega))).trans' k6 (fun n hn hl => List.mem_cons_of_mem _ (by rcases hfp n hn with h | h; exact h; omega))
      simp (maxDischargeDepth := 8) only [go_sem, reduceIte, reduceCtorEq, Nat.reduceEqDiff, Nat.reduceAdd, Nat.reduceMul, Nat.reduceSub, Nat.reduceLeDiff, Nat.reduceLT, Nat.reduceBEq, Int.reduceToNat, Int.reduceEq, Int.reduceLT, Int.reduceLE, Int.reduceAdd, Int.reduceSub, Int.reduceMul, Int.reduceNeg, hw, hd, hpC, hq1, hq2, wrap_small (x := (((i - 1) / 2 : Nat) : Int)) (by omega) (by omega), ai, ap, bi, bp, itV, st5, st6, s2.l]
      rw [KL_keep _ _ _ (by simp (maxDischargeDepth := 8) only [go_sem, reduceIte, reduceCtorEq, Nat.reduceEqDiff, Nat.reduceAdd, Nat.reduceMul, Nat.reduceSub, Nat.reduceLeDiff, Nat.reduceLT, Nat.reduceBEq, Int.reduceToNat, Int.reduceEq, Int.reduceLT, Int.reduceLE, Int.reduceAdd, Int.reduceSub, Int.reduceMul, Int.reduceNeg])]
      simp (maxDischargeDepth := 8) only [go_sem, reduceIte, reduceCtorEq, Nat.reduceEqDiff, Nat.reduceAdd, Nat.reduceMul, Nat.reduceSub, Nat.reduceLeDiff, Nat.reduceLT, Nat.reduceBEq, Int.reduceToNat, Int.reduceEq, Int.reduceLT, Int.reduceLE, Int.reduceAdd, Int.reduceSub, Int.reduceMul, Int.reduceNeg]
      exact ih ((i - 1) / 2, f, swp Lc i ((i - 1) / 2), H6) ⟨by dsimp only; omega, by dsimp only; rw [swp_len]; omega, by dsimp only; rw [swp_len]; exact hlen, hup, o6, hd6, kk6⟩ (by dsimp only; omega)
theorem r_heap_Push {X : Mem} {k : Nat} {hv : SV} {n : Int} {L : List It} (hO : HeapOwn X.heap k hv n L) (hb : L.length ≤ 4000000) (hn : 0 ≤ n ∧ n ≤ 1000000000) (hk : X.hb ≤ k) (hm : ∀ i ∈ slFp hv, X.hb ≤ i) (hw : X.Wf) (a b : Int) :
    ∃ hv' H' u, RF tb f_heap_Heap_law09_Item_Push [.ptr (.hp k 0) 0, .agg [.int .i64 a, .int .i64 b]] X = some (.tup [], (X.hp H').es (escMin X.esc u)) ∧ HeapOwn H' k hv' (n + 1) (upH hlt (L.length + 1) L.length (L ++ [(a, b, n)])) ∧ Keep (k :: slFp hv) X.heap H' ∧ (∀ i ∈ slFp hv', i ∈ slFp hv ∨ X.heap.length ≤ i) := by
  obtain ⟨hv', H', u, h1, h2, h3, h4, _⟩ := r_heap_PushE hO hb hn hk hm hw a b
  exact ⟨hv', H', u, h1, h2, h3, h4⟩
theorem own_take {α : Type} {d : Fl α} (hd : d.Even) {H : Hp} {v : SV} {l : List α} (h : Own d H v l) {hi : Nat} (hl : hi ≤ l.length) : Own d H (takeV hi v) (l.take hi) := by
  rcases h with ⟨rfl, rfl⟩ | ⟨rfl, rfl⟩ | ⟨k, w, off, cap, c, rfl, h1, h2, h3⟩
  · exact .inl ⟨rfl, by simp⟩
  · exact .inr (.inl ⟨rfl, by simp⟩)
  · have hle : hi * d.sz ≤ l.length * d.sz := Nat.mul_le_mul_right _ hl
    refine .inr (.inr ⟨k, w, off, cap, c, ?_, h1, ?_, ?_⟩)
    · rw [List.length_take, Nat.min_eq_left hl]; rfl
    · rw [List.length_take, Nat.min_eq_left hl]; omega
    · rw [List.length_take, Nat.min_eq_left hl]
      have e1 : (l.flatMap d.enc).take (hi * d.sz) = (l.take hi).flatMap d.enc := by
        conv => lhs; rw [← List.take_append_drop hi l, List.flatMap_append]
        rw [List.take_left']
        rw [flat_len hd, List.length_take, Nat.min_eq_left hl]
      rw [← e1, ← h3, List.take_take, Nat.min_eq_left hle]
theorem takeV_fp (hi : Nat) (v : SV) : slFp (takeV hi v) = slFp v := by
  cases v with
  | sl b off len cap z => cases b <;> rfl
  | _ => rfl
theorem takeV_cap (hi : Nat) (v : SV) (h : capN v = true) : capN (takeV hi v) = true := by
  cases v with
  | sl b off len cap z => cases cap <;> first | rfl | exact h
  | _ => rfl
/-- Popping: the plain act. -/
def popL (L : List It) : List It := match L[L.length - 1]? with
  | some x => downH hlt L.length 0 ((L.set 0 x).take (L.length - 1))
  | none => []
theorem r_heap_Pop0 {m : Mem} {k : Nat} {hv : SV} {n : Int} (hd : m.get (.hp k 0) = some (.cells true (hpC hv n))) (hl : LiesD itF m hv []) {X : Mem} (hX : HpSub m X) (hw : X.Wf) : RF tb f_heap_Heap_law09_Item_Pop [.ptr (.hp k 0) 0] X = some (.tup [.agg [.int .i64 0, .int .i64 0], .bool false], X) := by
  rw [RF_go t_heap_Heap_law09_Item_Pop _ _ rfl]
  simp (maxDischargeDepth := 8) only [go_sem, reduceIte, reduceCtorEq, Nat.reduceEqDiff, Nat.reduceAdd, Nat.reduceMul, Nat.reduceSub, Nat.reduceLeDiff, Nat.reduceLT, Nat.reduceBEq, Int.reduceToNat, Int.reduceEq, Int.reduceLT, Int.reduceLE, Int.reduceAdd, Int.reduceSub, Int.reduceMul, Int.reduceNeg, s_heap_Heap_law09_Item_Pop, hw, hX, r_heap_Top hd hl, show decide (0 < ([] : List It).length) = false from rfl]
  simp
theorem r_heap_Pop {X : Mem} {k : Nat} {hv : SV} {n : Int} {a0 : It} {T : List It} (hO : HeapOwn X.heap k hv n (a0 :: T)) (hb : T.length ≤ 4000000) (hk : X.hb ≤ k) (hm : ∀ i ∈ slFp hv, X.hb ≤ i) (hw : X.Wf) :
    ∃ hv' H' u, RF tb f_heap_Heap_law09_Item_Pop [.ptr (.hp k 0) 0] X = some (.tup [.agg [.int .i64 a0.1, .int .i64 a0.2.1], .bool true], (X.hp H').es (escMin X.esc u)) ∧ HeapOwn H' k hv' n (popL (a0 :: T)) ∧ Keep (k :: slFp hv) X.heap H' ∧ (∀ i ∈ slFp hv', i ∈ slFp hv) := by
  rw [RF_go t_heap_Heap_law09_Item_Pop _ _ rfl, push_hp]
  generalize hH : X.heap = H at *
  have hHl : X.hl = H.length := by rw [← hH]; rfl
  obtain ⟨hd, ow, nk, cp⟩ := hO
  have kl : k < H.length := hget_lt hd
  have s1 := ow.isSl itF_even
  obtain ⟨x, hx⟩ : ∃ x, (a0 :: T)[T.length]? = some x := ⟨_, List.getElem?_eq_getElem (by simp)⟩
  have ll := ow.lies itF_even
  have a1 : ∀ (q : IntKind) (Y : Mem), iaddrV 3 hv (.int q 0) Y = some (.ptr (.hp (slN hv) (slW hv)) (slO hv), Y) := fun q Y => LiesD.iaddr0 ll q Y
  have a2 : ∀ (q : IntKind) (Y : Mem), iaddrV 3 hv (.int q (T.length : Int)) Y = some (.ptr (.hp (slN hv) (slW hv)) (slO hv + T.length * 3), Y) := fun q Y => LiesD.iaddr ll (by simp) q Y
  have b2 : ∀ {Y : Mem}, HpSub (Hm H) Y → Y.load (.hp (slN hv) (slW hv)) (slO hv + T.length * 3) (some 3) = some (itV x) := fun hY => LiesD.loadX itF_even (by decide) ll hx hY
  obtain ⟨H1, st1, o1, k1, l1⟩ := storeIt ow (i := 0) (by simp) X hm x
  rw [Nat.zero_mul, Nat.add_zero] at st1
  have hd1 : hget H1 k 0 = some (.cells true (hpC hv n)) := k1.get hd nk
  have ts : sliceV 3 hv none (some (T.length : Int)) none = some (takeV T.length hv) := Lies.takeS ll (by simp) (fun b off cap z e => by
    rw [e] at cp
    cases cap with
    | none => simp
    | some c => cases cp)
  have wT : IntKind.wrap .i64 (((T.length + 1 : Nat) : Int) - 1) = (T.length : Int) := by rw [wrap_small (by omega) (by omega)]; omega
  simp (maxDischargeDepth := 8) only [go_sem, reduceIte, reduceCtorEq, Nat.reduceEqDiff, Nat.reduceAdd, Nat.reduceMul, Nat.reduceSub, Nat.reduceLeDiff, Nat.reduceLT, Nat.reduceBEq, Int.reduceToNat, Int.reduceEq, Int.reduceLT, Int.reduceLE, Int.reduceAdd, Int.reduceSub, Int.reduceMul, Int.reduceNeg, s_heap_Heap_law09_Item_Pop, hw, hH, hd, hpC, r_heap_Top (show (Hm H).get (.hp k 0) = _ from hd) ll, show decide (0 < (a0 :: T).length) = true from by simp, ll.len, show ((a0 :: T).length : Int) = (T.length : Int) + 1 from by simp, wT, List.headD_cons, a1, a2, b2, itV, st1, hd1, ts]
  have o1t := own_take itF_even o1 (hi := T.length) (by simp)
  have fpt := takeV_fp T.length hv
  have cpt := takeV_cap T.length hv cp
  generalize takeV T.length hv = tv at o1t fpt cpt
  obtain ⟨L1, hL1⟩ : ∃ L1, ((a0 :: T).set 0 x).take T.length = L1 := ⟨_, rfl⟩
  have hl1 : L1.length = T.length := by rw [← hL1, List.length_take, List.length_set, List.length_cons]; omega
  have hpop : popL (a0 :: T) = downH hlt (T.length + 1) 0 L1 := by
    rw [popL, show (a0 :: T).length - 1 = T.length from by simp, hx, ← hL1]
    rfl
  rw [hL1] at o1t
  rw [hpop]
  have s2 := o1t.isSl itF_even
  have nkt : k ∉ slFp tv := by rw [fpt]; exact nk
  have hmt : ∀ i ∈ slFp tv, X.hb ≤ i := by rw [fpt]; exact hm
  simp (maxDischargeDepth := 8) only [go_sem, reduceIte, reduceCtorEq, Nat.reduceEqDiff, Nat.reduceAdd, Nat.reduceMul, Nat.reduceSub, Nat.reduceLeDiff, Nat.reduceLT, Nat.reduceBEq, Int.reduceToNat, Int.reduceEq, Int.reduceLT, Int.reduceLE, Int.reduceAdd, Int.reduceSub, Int.reduceMul, Int.reduceNeg, hw, s2.c, s2.k, s2.o, s2.l, hd1, hpC, hk]
  have he0 : (∀ i ∈ slFp tv, i < X.hl) ∨ escOk X.hl (if tv.hx ≤ k then none else some k) = false := by
    by_cases h : tv.hx ≤ k
    · exact .inl fun i hi => by rw [hx_fp hi] at h; omega
    · rw [if_neg h]; exact .inr (escOk_some (by omega))
  generalize (if tv.hx ≤ k then none else some k) = e0 at he0 ⊢
  obtain ⟨H2, hH2⟩ : ∃ H2, H1.set k (0, SBk.cells true [.fn f_law09_ahead [] [], tv, .int .i64 n]) = H2 := ⟨_, rfl⟩
  have hd2 : hget H2 k 0 = some (.cells true (hpC tv n)) := by rw [← hH2, hget_set_eq (by omega), if_pos rfl]
  have k2 : Keep [k] H1 H2 := by rw [← hH2]; exact Keep.set (by simp) _ _
  have o2 : Own itF H2 tv L1 := o1t.keep k2 (fun i hi h => nkt (by rw [List.mem_singleton] at h; rw [← h]; exact hi))
  have kk2 : Keep (k :: slFp hv) H H2 := ((Keep.refl (k :: slFp hv) H).trans' k1 (fun n hn _ => List.mem_cons_of_mem _ hn)).trans' k2 (fun n hn _ => by rw [List.mem_singleton] at hn; rw [hn]; exact List.mem_cons_self)
  rw [hH2]
  rw [KL_keep _ _ _ (by simp (maxDischargeDepth := 8) only [go_sem, reduceIte, reduceCtorEq, Nat.reduceEqDiff, Nat.reduceAdd, Nat.reduceMul, Nat.reduceSub, Nat.reduceLeDiff, Nat.reduceLT, Nat.reduceBEq, Int.reduceToNat, Int.reduceEq, Int.reduceLT, Int.reduceLE, Int.reduceAdd, Int.reduceSub, Int.reduceMul, Int.reduceNeg])]
  simp (maxDischargeDepth := 8) only [go_sem, reduceIte, reduceCtorEq, Nat.reduceEqDiff, Nat.reduceAdd, Nat.reduceMul, Nat.reduceSub, Nat.reduceLeDiff, Nat.reduceLT, Nat.reduceBEq, Int.reduceToNat, Int.reduceEq, Int.reduceLT, Int.reduceLE, Int.reduceAdd, Int.reduceSub, Int.reduceMul, Int.reduceNeg]
  generalize hRr : downH hlt (T.length + 1) 0 L1 = Rr
  refine KL_ind (R := fun z => ∃ hv' H' u, fin [.cell 2 (some 2), .t 3] X z = some (.tup [.agg [.int .i64 a0.1, .int .i64 a0.2.1], .bool true], (X.hp H').es (escMin X.esc u)) ∧ HeapOwn H' k hv' n Rr ∧ Keep (k :: slFp hv) H H' ∧ ∀ (i : Nat), i ∈ slFp hv' → i ∈ slFp hv) (α := Nat × Nat × List It × Hp) (fun q => q.2.1)
    (fun q => [(0, .ptr (.hp k 0) 0), (2, .ptr (.st X.dep 0) 0), (4, .ptr (.st X.dep 1) 0), (6, .int .i64 (T.length : Int)), (7, .int .i64 (q.1 : Int))])
    (fun q => (X.hp q.2.2.2).fr [.cells true [.int .i64 0, .int .i64 0], .cells true [.int .i64 a0.1, .int .i64 a0.2.1]] e0)
    (fun q => q.2.2.1.length = T.length ∧ q.1 ≤ T.length ∧ T.length < q.1 + q.2.1 ∧ Rr = downH hlt q.2.1 q.1 q.2.2.1 ∧ Own itF q.2.2.2 tv q.2.2.1 ∧ hget q.2.2.2 k 0 = some (.cells true (hpC tv n)) ∧ Keep (k :: slFp hv) H q.2.2.2) ?_ (0, T.length + 1, L1, H2) ⟨hl1, by simp, by simp, hRr.symm, o2, hd2, kk2⟩
  clear o2 hd2 kk2 hRr
  rintro ⟨i, f, Lc, Hc⟩ ⟨hlen, hiT, hif, hup, ow, hd, kk⟩ ih
  dsimp only at hlen hiT hif hup ow hd kk ⊢
  obtain ⟨f, rfl⟩ : ∃ g, f = g + 1 := ⟨f - 1, by omega⟩
  have w1 : IntKind.wrap .i64 (2 * (i : Int)) = ((2 * i : Nat) : Int) := by rw [wrap_small (by omega) (by omega)]; omega
  have w2 : IntKind.wrap .i64 (((2 * i : Nat) : Int) + 1) = ((2 * i + 1 : Nat) : Int) := by rw [wrap_small (by omega) (by omega)]; omega
  have w3 : IntKind.wrap .i64 (((2 * i + 1 : Nat) : Int) + 1) = ((2 * i + 1 + 1 : Nat) : Int) := by rw [wrap_small (by omega) (by omega)]; omega
  have ll := ow.lies itF_even
  have hdm : (Hm Hc).get (.hp k 0) = some (.cells true (hpC tv n)) := hd
  have fin_ : ∀ Lf, Rr = Lf → Lf = Lc → ∃ hv' H' u, some (SV.tup [.agg [.int .i64 a0.1, .int .i64 a0.2.1], .bool true], (X.hp (if escOk X.hl e0 = true then Hc.take X.hl else Hc)).es (escMin X.esc e0)) = some (.tup [.agg [.int .i64 a0.1, .int .i64 a0.2.1], .bool true], (X.hp H').es (escMin X.esc u)) ∧ HeapOwn H' k hv' n Rr ∧ Keep (k :: slFp hv) H H' ∧ ∀ (i : Nat), i ∈ slFp hv' → i ∈ slFp hv := fun Lf h1 h2 => by
    rw [h1, h2]
    exact ⟨tv, _, e0, rfl, endOwn hd ow nkt cpt he0 (by omega), by rw [← hH] at kk ⊢; exact kk.back0, fun i hi => by rw [fpt] at hi; exact hi⟩
  simp (maxDischargeDepth := 8) only [go_sem, reduceIte, reduceCtorEq, Nat.reduceEqDiff, Nat.reduceAdd, Nat.reduceMul, Nat.reduceSub, Nat.reduceLeDiff, Nat.reduceLT, Nat.reduceBEq, Int.reduceToNat, Int.reduceEq, Int.reduceLT, Int.reduceLE, Int.reduceAdd, Int.reduceSub, Int.reduceMul, Int.reduceNeg, hw, w1, w2, w3]
  simp only [downH] at hup
  by_cases hk2 : 2 * i + 1 + 1 < T.length
  · obtain ⟨x1, hx1⟩ : ∃ x, Lc[2 * i + 1]? = some x := ⟨_, List.getElem?_eq_getElem (by omega)⟩
    obtain ⟨x2, hx2⟩ : ∃ x, Lc[2 * i + 1 + 1]? = some x := ⟨_, List.getElem?_eq_getElem (by omega)⟩
    obtain ⟨y, hy⟩ : ∃ y, Lc[i]? = some y := ⟨_, List.getElem?_eq_getElem (by omega)⟩
    simp (maxDischargeDepth := 8) only [go_sem, reduceIte, reduceCtorEq, Nat.reduceEqDiff, Nat.reduceAdd, Nat.reduceMul, Nat.reduceSub, Nat.reduceLeDiff, Nat.reduceLT, Nat.reduceBEq, Int.reduceToNat, Int.reduceEq, Int.reduceLT, Int.reduceLE, Int.reduceAdd, Int.reduceSub, Int.reduceMul, Int.reduceNeg, hw, show decide (((2 * i + 1 + 1 : Nat) : Int) < (T.length : Int)) = true from decide_eq_true (by omega), w3, r_heap_first hdm ll hx2 hx1]
    cases hc : hlt x2 x1 with
    | true =>
      have hkid : kidH hlt Lc i = 2 * i + 1 + 1 := by simp only [kidH, hx1, hx2, hc, if_true]
      rw [hkid, hx2, hy] at hup
      simp (maxDischargeDepth := 8) only [go_sem, reduceIte, reduceCtorEq, Nat.reduceEqDiff, Nat.reduceAdd, Nat.reduceMul, Nat.reduceSub, Nat.reduceLeDiff, Nat.reduceLT, Nat.reduceBEq, Int.reduceToNat, Int.reduceEq, Int.reduceLT, Int.reduceLE, Int.reduceAdd, Int.reduceSub, Int.reduceMul, Int.reduceNeg, hw, w3]
      dsimp only at hup
      simp (maxDischargeDepth := 8) only [go_sem, reduceIte, reduceCtorEq, Nat.reduceEqDiff, Nat.reduceAdd, Nat.reduceMul, Nat.reduceSub, Nat.reduceLeDiff, Nat.reduceLT, Nat.reduceBEq, Int.reduceToNat, Int.reduceEq, Int.reduceLT, Int.reduceLE, Int.reduceAdd, Int.reduceSub, Int.reduceMul, Int.reduceNeg, hw, show decide (((2 * i + 1 + 1 : Nat) : Int) ≥ (T.length : Int)) = false from decide_eq_false (by omega), r_heap_first hdm ll hx2 hy]
      cases hd' : hlt x2 y with
      | false =>
        rw [hd', if_neg Bool.false_ne_true] at hup
        simp (maxDischargeDepth := 8) only [go_sem, reduceIte, reduceCtorEq, Nat.reduceEqDiff, Nat.reduceAdd, Nat.reduceMul, Nat.reduceSub, Nat.reduceLeDiff, Nat.reduceLT, Nat.reduceBEq, Int.reduceToNat, Int.reduceEq, Int.reduceLT, Int.reduceLE, Int.reduceAdd, Int.reduceSub, Int.reduceMul, Int.reduceNeg, hw]
        exact fin_ _ hup rfl
      | true =>
        rw [hd', if_pos rfl] at hup
        have ai : ∀ (q : IntKind) (Y : Mem), iaddrV 3 tv (.int q (i : Int)) Y = some (.ptr (.hp (slN tv) (slW tv)) (slO tv + i * 3), Y) := fun q Y => LiesD.iaddr ll (by omega) q Y
        have ap : ∀ (q : IntKind) (Y : Mem), iaddrV 3 tv (.int q ((2 * i + 1 + 1 : Nat) : Int)) Y = some (.ptr (.hp (slN tv) (slW tv)) (slO tv + (2 * i + 1 + 1) * 3), Y) := fun q Y => LiesD.iaddr ll (by omega) q Y
        have bi : ∀ {Y : Mem}, HpSub (Hm Hc) Y → Y.load (.hp (slN tv) (slW tv)) (slO tv + i * 3) (some 3) = some (itV y) := fun hY => LiesD.loadX itF_even (by decide) ll hy hY
        have bp : ∀ {Y : Mem}, HpSub (Hm Hc) Y → Y.load (.hp (slN tv) (slW tv)) (slO tv + (2 * i + 1 + 1) * 3) (some 3) = some (itV x2) := fun hY => LiesD.loadX itF_even (by decide) ll hx2 hY
        obtain ⟨H5, st5, o5, k5, l5⟩ := storeIt ow (i := i) (by omega) X hmt x2
        obtain ⟨H6, st6, o6, k6, l6⟩ := storeIt o5 (i := 2 * i + 1 + 1) (by rw [List.length_set]; omega) X hmt y
        rw [← swp_eq hy hx2] at o6
        have hd6 : hget H6 k 0 = some (.cells true (hpC tv n)) := k6.get (k5.get hd nkt) nkt
        have kk6 : Keep (k :: slFp hv) H H6 := (kk.trans' k5 (fun n hn hl => List.mem_cons_of_mem _ (by rw [← fpt]; exact hn))).trans' k6 (fun n hn hl => List.mem_cons_of_mem _ (by rw [← fpt]; exact hn))
        simp (maxDischargeDepth := 8) only [go_sem, reduceIte, reduceCtorEq, Nat.reduceEqDiff, Nat.reduceAdd, Nat.reduceMul, Nat.reduceSub, Nat.reduceLeDiff, Nat.reduceLT, Nat.reduceBEq, Int.reduceToNat, Int.reduceEq, Int.reduceLT, Int.reduceLE, Int.reduceAdd, Int.reduceSub, Int.reduceMul, Int.reduceNeg, hw, hd, hpC, ai, ap, bi, bp, itV, st5, st6, s2.l]
        rw [KL_keep _ _ _ (by simp (maxDischargeDepth := 8) only [go_sem, reduceIte, reduceCtorEq, Nat.reduceEqDiff, Nat.reduceAdd, Nat.reduceMul, Nat.reduceSub, Nat.reduceLeDiff, Nat.reduceLT, Nat.reduceBEq, Int.reduceToNat, Int.reduceEq, Int.reduceLT, Int.reduceLE, Int.reduceAdd, Int.reduceSub, Int.reduceMul, Int.reduceNeg])]
        simp (maxDischargeDepth := 8) only [go_sem, reduceIte, reduceCtorEq, Nat.reduceEqDiff, Nat.reduceAdd, Nat.reduceMul, Nat.reduceSub, Nat.reduceLeDiff, Nat.reduceLT, Nat.reduceBEq, Int.reduceToNat, Int.reduceEq, Int.reduceLT, Int.reduceLE, Int.reduceAdd, Int.reduceSub, Int.reduceMul, Int.reduceNeg]
        exact ih (2 * i + 1 + 1, f, swp Lc i (2 * i + 1 + 1), H6) ⟨by dsimp only; rw [swp_len]; exact hlen, by dsimp only; omega, by dsimp only; omega, hup, o6, hd6, kk6⟩ (by dsimp only; omega)
    | false =>
      have hkid : kidH hlt Lc i = 2 * i + 1 := by simp only [kidH, hx1, hx2, hc, Bool.false_eq_true, if_false]
      rw [hkid, hx1, hy] at hup
      simp (maxDischargeDepth := 8) only [go_sem, reduceIte, reduceCtorEq, Nat.reduceEqDiff, Nat.reduceAdd, Nat.reduceMul, Nat.reduceSub, Nat.reduceLeDiff, Nat.reduceLT, Nat.reduceBEq, Int.reduceToNat, Int.reduceEq, Int.reduceLT, Int.reduceLE, Int.reduceAdd, Int.reduceSub, Int.reduceMul, Int.reduceNeg, hw]
      dsimp only at hup
      simp (maxDischargeDepth := 8) only [go_sem, reduceIte, reduceCtorEq, Nat.reduceEqDiff, Nat.reduceAdd, Nat.reduceMul, Nat.reduceSub, Nat.reduceLeDiff, Nat.reduceLT, Nat.reduceBEq, Int.reduceToNat, Int.reduceEq, Int.reduceLT, Int.reduceLE, Int.reduceAdd, Int.reduceSub, Int.reduceMul, Int.reduceNeg, hw, show decide (((2 * i + 1 : Nat) : Int) ≥ (T.length : Int)) = false from decide_eq_false (by omega), r_heap_first hdm ll hx1 hy]
      cases hd' : hlt x1 y with
      | false =>
        rw [hd', if_neg Bool.false_ne_true] at hup
        simp (maxDischargeDepth := 8) only [go_sem, reduceIte, reduceCtorEq, Nat.reduceEqDiff, Nat.reduceAdd, Nat.reduceMul, Nat.reduceSub, Nat.reduceLeDiff, Nat.reduceLT, Nat.reduceBEq, Int.reduceToNat, Int.reduceEq, Int.reduceLT, Int.reduceLE, Int.reduceAdd, Int.reduceSub, Int.reduceMul, Int.reduceNeg, hw]
        exact fin_ _ hup rfl
      | true =>
        rw [hd', if_pos rfl] at hup
        have ai : ∀ (q : IntKind) (Y : Mem), iaddrV 3 tv (.int q (i : Int)) Y = some (.ptr (.hp (slN tv) (slW tv)) (slO tv + i * 3), Y) := fun q Y => LiesD.iaddr ll (by omega) q Y
        have ap : ∀ (q : IntKind) (Y : Mem), iaddrV 3 tv (.int q ((2 * i + 1 : Nat) : Int)) Y = some (.ptr (.hp (slN tv) (slW tv)) (slO tv + (2 * i + 1) * 3), Y) := fun q Y => LiesD.iaddr ll (by omega) q Y
        have bi : ∀ {Y : Mem}, HpSub (Hm Hc) Y → Y.load (.hp (slN tv) (slW tv)) (slO tv + i * 3) (some 3) = some (itV y) := fun hY => LiesD.loadX itF_even (by decide) ll hy hY
        have bp : ∀ {Y : Mem}, HpSub (Hm Hc) Y → Y.load (.hp (slN tv) (slW tv)) (slO tv + (2 * i + 1) * 3) (some 3) = some (itV x1) := fun hY => LiesD.loadX itF_even (by decide) ll hx1 hY
        obtain ⟨H5, st5, o5, k5, l5⟩ := storeIt ow (i := i) (by omega) X hmt x1
        obtain ⟨H6, st6, o6, k6, l6⟩ := storeIt o5 (i := 2 * i + 1) (by rw [List.length_set]; omega) X hmt y
        rw [← swp_eq hy hx1] at o6
        have hd6 : hget H6 k 0 = some (.cells true (hpC tv n)) := k6.get (k5.get hd nkt) nkt
        have kk6 : Keep (k :: slFp hv) H H6 := (kk.trans' k5 (fun n hn hl => List.mem_cons_of_mem _ (by rw [← fpt]; exact hn))).trans' k6 (fun n hn hl => List.mem_cons_of_mem _ (by rw [← fpt]; exact hn))
        simp (maxDischargeDepth := 8) only [go_sem, reduceIte, reduceCtorEq, Nat.reduceEqDiff, Nat.reduceAdd, Nat.reduceMul, Nat.reduceSub, Nat.reduceLeDiff, Nat.reduceLT, Nat.reduceBEq, Int.reduceToNat, Int.reduceEq, Int.reduceLT, Int.reduceLE, Int.reduceAdd, Int.reduceSub, Int.reduceMul, Int.reduceNeg, hw, hd, hpC, ai, ap, bi, bp, itV, st5, st6, s2.l]
        rw [KL_keep _ _ _ (by simp (maxDischargeDepth := 8) only [go_sem, reduceIte, reduceCtorEq, Nat.reduceEqDiff, Nat.reduceAdd, Nat.reduceMul, Nat.reduceSub, Nat.reduceLeDiff, Nat.reduceLT, Nat.reduceBEq, Int.reduceToNat, Int.reduceEq, Int.reduceLT, Int.reduceLE, Int.reduceAdd, Int.reduceSub, Int.reduceMul, Int.reduceNeg])]
        simp (maxDischargeDepth := 8) only [go_sem, reduceIte, reduceCtorEq, Nat.reduceEqDiff, Nat.reduceAdd, Nat.reduceMul, Nat.reduceSub, Nat.reduceLeDiff, Nat.reduceLT, Nat.reduceBEq, Int.reduceToNat, Int.reduceEq, Int.reduceLT, Int.reduceLE, Int.reduceAdd, Int.reduceSub, Int.reduceMul, Int.reduceNeg]
        exact ih (2 * i + 1, f, swp Lc i (2 * i + 1), H6) ⟨by dsimp only; rw [swp_len]; exact hlen, by dsimp only; omega, by dsimp only; omega, hup, o6, hd6, kk6⟩ (by dsimp only; omega)
  · simp (maxDischargeDepth := 8) only [go_sem, reduceIte, reduceCtorEq, Nat.reduceEqDiff, Nat.reduceAdd, Nat.reduceMul, Nat.reduceSub, Nat.reduceLeDiff, Nat.reduceLT, Nat.reduceBEq, Int.reduceToNat, Int.reduceEq, Int.reduceLT, Int.reduceLE, Int.reduceAdd, Int.reduceSub, Int.reduceMul, Int.reduceNeg, hw, show decide (((2 * i + 1 + 1 : Nat) : Int) < (T.length : Int)) = false from decide_eq_false (by omega)]
    have hkid : kidH hlt Lc i = 2 * i + 1 := by
      have : Lc[2 * i + 1 + 1]? = none := List.getElem?_eq_none (by omega)
      simp only [kidH, this]
      split <;> simp_all
    rw [hkid] at hup
    by_cases hk1 : 2 * i + 1 < T.length
    · obtain ⟨x1, hx1⟩ : ∃ x, Lc[2 * i + 1]? = some x := ⟨_, List.getElem?_eq_getElem (by omega)⟩
      obtain ⟨y, hy⟩ : ∃ y, Lc[i]? = some y := ⟨_, List.getElem?_eq_getElem (by omega)⟩
      rw [hx1, hy] at hup
      dsimp only at hup
      simp (maxDischargeDepth := 8) only [go_sem, reduceIte, reduceCtorEq, Nat.reduceEqDiff, Nat.reduceAdd, Nat.reduceMul, Nat.reduceSub, Nat.reduceLeDiff, Nat.reduceLT, Nat.reduceBEq, Int.reduceToNat, Int.reduceEq, Int.reduceLT, Int.reduceLE, Int.reduceAdd, Int.reduceSub, Int.reduceMul, Int.reduceNeg, hw, show decide (((2 * i + 1 : Nat) : Int) ≥ (T.length : Int)) = false from decide_eq_false (by omega), r_heap_first hdm ll hx1 hy]
      cases hd' : hlt x1 y with
      | false =>
        rw [hd', if_neg Bool.false_ne_true] at hup
        simp (maxDischargeDepth := 8) only [go_sem, reduceIte, reduceCtorEq, Nat.reduceEqDiff, Nat.reduceAdd, Nat.reduceMul, Nat.reduceSub, Nat.reduceLeDiff, Nat.reduceLT, Nat.reduceBEq, Int.reduceToNat, Int.reduceEq, Int.reduceLT, Int.reduceLE, Int.reduceAdd, Int.reduceSub, Int.reduceMul, Int.reduceNeg, hw]
        exact fin_ _ hup rfl
      | true =>
        rw [hd', if_pos rfl] at hup
        have ai : ∀ (q : IntKind) (Y : Mem), iaddrV 3 tv (.int q (i : Int)) Y = some (.ptr (.hp (slN tv) (slW tv)) (slO tv + i * 3), Y) := fun q Y => LiesD.iaddr ll (by omega) q Y
        have ap : ∀ (q : IntKind) (Y : Mem), iaddrV 3 tv (.int q ((2 * i + 1 : Nat) : Int)) Y = some (.ptr (.hp (slN tv) (slW tv)) (slO tv + (2 * i + 1) * 3), Y) := fun q Y => LiesD.iaddr ll (by omega) q Y
        have bi : ∀ {Y : Mem}, HpSub (Hm Hc) Y → Y.load (.hp (slN tv) (slW tv)) (slO tv + i * 3) (some 3) = some (itV y) := fun hY => LiesD.loadX itF_even (by decide) ll hy hY
        have bp : ∀ {Y : Mem}, HpSub (Hm Hc) Y → Y.load (.hp (slN tv) (slW tv)) (slO tv + (2 * i + 1) * 3) (some 3) = some (itV x1) := fun hY => LiesD.loadX itF_even (by decide) ll hx1 hY
        obtain ⟨H5, st5, o5, k5, l5⟩ := storeIt ow (i := i) (by omega) X hmt x1
        obtain ⟨H6, st6, o6, k6, l6⟩ := storeIt o5 (i := 2 * i + 1) (by rw [List.length_set]; omega) X hmt y
        rw [← swp_eq hy hx1] at o6
        have hd6 : hget H6 k 0 = some (.cells true (hpC tv n)) := k6.get (k5.get hd nkt) nkt
        have kk6 : Keep (k :: slFp hv) H H6 := (kk.trans' k5 (fun n hn hl => List.mem_cons_of_mem _ (by rw [← fpt]; exact hn))).trans' k6 (fun n hn hl => List.mem_cons_of_mem _ (by rw [← fpt]; exact hn))
        simp (maxDischargeDepth := 8) only [go_sem, reduceIte, reduceCtorEq, Nat.reduceEqDiff, Nat.reduceAdd, Nat.reduceMul, Nat.reduceSub, Nat.reduceLeDiff, Nat.reduceLT, Nat.reduceBEq, Int.reduceToNat, Int.reduceEq, Int.reduceLT, Int.reduceLE, Int.reduceAdd, Int.reduceSub, Int.reduceMul, Int.reduceNeg, hw, hd, hpC, ai, ap, bi, bp, itV, st5, st6, s2.l]
        rw [KL_keep _ _ _ (by simp (maxDischargeDepth := 8) only [go_sem, reduceIte, reduceCtorEq, Nat.reduceEqDiff, Nat.reduceAdd, Nat.reduceMul, Nat.reduceSub, Nat.reduceLeDiff, Nat.reduceLT, Nat.reduceBEq, Int.reduceToNat, Int.reduceEq, Int.reduceLT, Int.reduceLE, Int.reduceAdd, Int.reduceSub, Int.reduceMul, Int.reduceNeg])]
        simp (maxDischargeDepth := 8) only [go_sem, reduceIte, reduceCtorEq, Nat.reduceEqDiff, Nat.reduceAdd, Nat.reduceMul, Nat.reduceSub, Nat.reduceLeDiff, Nat.reduceLT, Nat.reduceBEq, Int.reduceToNat, Int.reduceEq, Int.reduceLT, Int.reduceLE, Int.reduceAdd, Int.reduceSub, Int.reduceMul, Int.reduceNeg]
        exact ih (2 * i + 1, f, swp Lc i (2 * i + 1), H6) ⟨by dsimp only; rw [swp_len]; exact hlen, by dsimp only; omega, by dsimp only; omega, hup, o6, hd6, kk6⟩ (by dsimp only; omega)
    · have hno : Lc[2 * i + 1]? = none := List.getElem?_eq_none (by omega)
      rw [hno] at hup
      simp (maxDischargeDepth := 8) only [go_sem, reduceIte, reduceCtorEq, Nat.reduceEqDiff, Nat.reduceAdd, Nat.reduceMul, Nat.reduceSub, Nat.reduceLeDiff, Nat.reduceLT, Nat.reduceBEq, Int.reduceToNat, Int.reduceEq, Int.reduceLT, Int.reduceLE, Int.reduceAdd, Int.reduceSub, Int.reduceMul, Int.reduceNeg, hw, show decide (((2 * i + 1 : Nat) : Int) ≥ (T.length : Int)) = true from decide_eq_true (by omega)]
      exact fin_ _ hup rfl
theorem push_of {X : Mem} {k : Nat} {hv : SV} {n a b : Int} {L : List It} {z : Option (SV × Mem)} (hz : RF tb f_heap_Heap_law09_Item_Push [.ptr (.hp k 0) 0, .agg [.int .i64 a, .int .i64 b]] X = z) (hO : HeapOwn X.heap k hv n L) (hb : L.length ≤ 4000000) (hn : 0 ≤ n ∧ n ≤ 1000000000) (hk : X.hb ≤ k) (hm : ∀ i ∈ slFp hv, X.hb ≤ i) (hw : X.Wf) :
    ∃ hv' H' u, z = some (.tup [], (X.hp H').es (escMin X.esc u)) ∧ HeapOwn H' k hv' (n + 1) (upH hlt (L.length + 1) L.length (L ++ [(a, b, n)])) ∧ Keep (k :: slFp hv) X.heap H' ∧ (∀ i ∈ slFp hv', i ∈ slFp hv ∨ X.heap.length ≤ i) := by
  rw [← hz]
  exact r_heap_Push hO hb hn hk hm hw a b
theorem pop_of {X : Mem} {k : Nat} {hv : SV} {n : Int} {a0 : It} {T : List It} {z : Option (SV × Mem)} (hz : RF tb f_heap_Heap_law09_Item_Pop [.ptr (.hp k 0) 0] X = z) (hO : HeapOwn X.heap k hv n (a0 :: T)) (hb : T.length ≤ 4000000) (hk : X.hb ≤ k) (hm : ∀ i ∈ slFp hv, X.hb ≤ i) (hw : X.Wf) :
    ∃ hv' H' u, z = some (.tup [.agg [.int .i64 a0.1, .int .i64 a0.2.1], .bool true], (X.hp H').es (escMin X.esc u)) ∧ HeapOwn H' k hv' n (popL (a0 :: T)) ∧ Keep (k :: slFp hv) X.heap H' ∧ (∀ i ∈ slFp hv', i ∈ slFp hv) := by
  rw [← hz]
  exact r_heap_Pop hO hb hk hm hw
theorem u1 : upH hlt 1 0 [((9 : Int), (0 : Int), (0 : Int))] = [(9, 0, 0)] := by decide +kernel
theorem u2 : upH hlt 2 1 [((9 : Int), (0 : Int), (0 : Int)), (1, 0, 1)] = [(1, 0, 1), (9, 0, 0)] := by decide +kernel
theorem u3 : popL [((1 : Int), (0 : Int), (1 : Int)), (9, 0, 0)] = [(9, 0, 0)] := by decide +kernel
theorem heap_new (H : Hp) : HeapOwn (H ++ [(0, .cells true (hpC .nils 0))]) H.length .nils 0 [] := ⟨hget_new0 0 _, Own.nil _, by simp [slFp], rfl⟩
theorem r_law09_awake (X : Mem) (hw : X.Wf) (hhb : X.hb ≤ X.hl) : ∃ H' u, RF tb f_law09_awake [] X = some (.bool true, (X.hp H').es (escMin X.esc u)) ∧ Keep [] X.heap H' := by
  rw [RF_go t_law09_awake _ _ rfl, push_hp]
  generalize hH : X.heap = H
  have hHl : X.hl = H.length := by rw [← hH]; rfl
  simp (maxDischargeDepth := 8) only [go_sem, reduceIte, reduceCtorEq, Nat.reduceEqDiff, Nat.reduceAdd, Nat.reduceMul, Nat.reduceSub, Nat.reduceLeDiff, Nat.reduceLT, Nat.reduceBEq, Int.reduceToNat, Int.reduceEq, Int.reduceLT, Int.reduceLE, Int.reduceAdd, Int.reduceSub, Int.reduceMul, Int.reduceNeg, s_law09_awake, hw, hH, r_heap_New]
  obtain ⟨H1, hH1⟩ : ∃ H1, H ++ [(0, SBk.cells true [.fn f_law09_ahead [] [], .nils, .int .i64 0])] = H1 := ⟨_, rfl⟩
  have o1 : HeapOwn H1 H.length .nils 0 [] := by rw [← hH1]; exact heap_new H
  have k1 : Keep [] H H1 := by rw [← hH1]; exact Keep.app _ _ _
  have l1 : H1.length = H.length + 1 := by rw [← hH1, List.length_append]; rfl
  rw [hH1]
  generalize hz : RF tb f_heap_Heap_law09_Item_Push _ _ = z
  obtain ⟨v2, H2, u2', rfl, o2, k2, f2⟩ := push_of hz o1 (by simp) (by decide) (by show X.hb ≤ H.length; omega) (by simp [slFp]) (by simp (maxDischargeDepth := 8) only [go_sem, reduceIte, reduceCtorEq, Nat.reduceEqDiff, Nat.reduceAdd, Nat.reduceMul, Nat.reduceSub, Nat.reduceLeDiff, Nat.reduceLT, Nat.reduceBEq, Int.reduceToNat, Int.reduceEq, Int.reduceLT, Int.reduceLE, Int.reduceAdd, Int.reduceSub, Int.reduceMul, Int.reduceNeg, hw])
  change Keep _ H1 H2 at k2
  change ∀ i ∈ slFp v2, i ∈ slFp .nils ∨ H1.length ≤ i at f2
  rw [show ([] : List It).length = 0 from rfl, List.nil_append, u1] at o2
  simp (maxDischargeDepth := 8) only [go_sem, reduceIte, reduceCtorEq, Nat.reduceEqDiff, Nat.reduceAdd, Nat.reduceMul, Nat.reduceSub, Nat.reduceLeDiff, Nat.reduceLT, Nat.reduceBEq, Int.reduceToNat, Int.reduceEq, Int.reduceLT, Int.reduceLE, Int.reduceAdd, Int.reduceSub, Int.reduceMul, Int.reduceNeg, hw]
  have l2 := k2.1
  have fH2 : ∀ i ∈ slFp v2, H1.length ≤ i := fun i hi => by
    rcases f2 i hi with h | h
    · simp [slFp] at h
    · exact h
  generalize hz : RF tb f_heap_Heap_law09_Item_Push _ _ = z
  obtain ⟨v3, H3, u3', rfl, o3, k3, f3⟩ := push_of hz o2 (by simp) (by decide) (by show X.hb ≤ H.length; omega) (fun i hi => by have := fH2 i hi; show X.hb ≤ i; omega) (by simp (maxDischargeDepth := 8) only [go_sem, reduceIte, reduceCtorEq, Nat.reduceEqDiff, Nat.reduceAdd, Nat.reduceMul, Nat.reduceSub, Nat.reduceLeDiff, Nat.reduceLT, Nat.reduceBEq, Int.reduceToNat, Int.reduceEq, Int.reduceLT, Int.reduceLE, Int.reduceAdd, Int.reduceSub, Int.reduceMul, Int.reduceNeg, hw])
  change Keep _ H2 H3 at k3
  change ∀ i ∈ slFp v3, i ∈ slFp v2 ∨ H2.length ≤ i at f3
  rw [show ([((9 : Int), (0 : Int), (0 : Int))]).length = 1 from rfl, show ([((9 : Int), (0 : Int), (0 : Int))]) ++ [((1 : Int), (0 : Int), (0 : Int) + 1)] = [(9, 0, 0), (1, 0, 1)] from rfl, u2] at o3
  simp (maxDischargeDepth := 8) only [go_sem, reduceIte, reduceCtorEq, Nat.reduceEqDiff, Nat.reduceAdd, Nat.reduceMul, Nat.reduceSub, Nat.reduceLeDiff, Nat.reduceLT, Nat.reduceBEq, Int.reduceToNat, Int.reduceEq, Int.reduceLT, Int.reduceLE, Int.reduceAdd, Int.reduceSub, Int.reduceMul, Int.reduceNeg, hw]
  have fH3 : ∀ i ∈ slFp v3, H1.length ≤ i := fun i hi => by
    rcases f3 i hi with h | h
    · exact fH2 i h
    · omega
  generalize hz : RF tb f_heap_Heap_law09_Item_Pop _ _ = z
  obtain ⟨v4, H4, u4', rfl, o4, k4, f4⟩ := pop_of hz o3 (by simp) (by show X.hb ≤ H.length; omega) (fun i hi => by have := fH3 i hi; show X.hb ≤ i; omega) (by simp (maxDischargeDepth := 8) only [go_sem, reduceIte, reduceCtorEq, Nat.reduceEqDiff, Nat.reduceAdd, Nat.reduceMul, Nat.reduceSub, Nat.reduceLeDiff, Nat.reduceLT, Nat.reduceBEq, Int.reduceToNat, Int.reduceEq, Int.reduceLT, Int.reduceLE, Int.reduceAdd, Int.reduceSub, Int.reduceMul, Int.reduceNeg, hw])
  change Keep _ H3 H4 at k4
  rw [u3] at o4
  simp (maxDischargeDepth := 8) only [go_sem, reduceIte, reduceCtorEq, Nat.reduceEqDiff, Nat.reduceAdd, Nat.reduceMul, Nat.reduceSub, Nat.reduceLeDiff, Nat.reduceLT, Nat.reduceBEq, Int.reduceToNat, Int.reduceEq, Int.reduceLT, Int.reduceLE, Int.reduceAdd, Int.reduceSub, Int.reduceMul, Int.reduceNeg, hw, r_heap_Len (show (Hm H4).get (.hp H.length 0) = _ from o4.hd) (o4.ow.lies itF_even), show ((1 : Int) == 1) = true from rfl, show ((([((9 : Int), (0 : Int), (0 : Int))]).length : Int) == 1) = true from rfl]
  have kk : Keep [] H H4 := ((k1.trans' k2 (fun n hn hl => by
    rcases List.mem_cons.1 hn with h | h
    · omega
    · simp [slFp] at h)).trans' k3 (fun n hn hl => by
    rcases List.mem_cons.1 hn with h | h
    · omega
    · have := fH2 n h; omega)).trans' k4 (fun n hn hl => by
    rcases List.mem_cons.1 hn with h | h
    · omega
    · have := fH3 n h; omega)
  exact ⟨_, _, rfl, by rw [← hH] at kk ⊢; exact kk.back0⟩
theorem aw09 {X : Mem} {z : Option (SV × Mem)} (hz : RF tb f_law09_awake [] X = z) (hw : X.Wf) (hhb : X.hb ≤ X.hl) : ∃ H' u, z = some (.bool true, (X.hp H').es (escMin X.esc u)) ∧ Keep [] X.heap H' := by
  rw [← hz]
  exact r_law09_awake X hw hhb
theorem pop_perm (a0 : It) (T : List It) : (popL (a0 :: T)).Perm T ∧ (HOk hlt (a0 :: T) (fun _ => True) → HOk hlt (popL (a0 :: T)) (fun _ => True)) := by
  rcases List.eq_nil_or_concat T with rfl | ⟨T', x, rfl⟩
  · exact ⟨List.Perm.refl _, fun _ => fun j a b _ _ h => by simp [popL, downH, kidH] at h⟩
  · have e : popL (a0 :: (T' ++ [x])) = downH hlt (T'.length + 1 + 1) 0 (x :: T') := by
      have e1 : (a0 :: (T' ++ [x])).length - 1 = T'.length + 1 := by simp
      have e2 : (a0 :: (T' ++ [x]))[T'.length + 1]? = some x := by simp
      have e3 : ((a0 :: (T' ++ [x])).set 0 x).take (T'.length + 1) = x :: T' := by simp
      have e4 : (a0 :: (T' ++ [x])).length = T'.length + 1 + 1 := by simp
      rw [popL, e1, e2]
      dsimp only
      rw [e3, e4]
    rw [List.concat_eq_append] at *
    rw [e]
    refine ⟨(down_perm _ _ _).trans ?_, fun h => ?_⟩
    · exact (List.perm_append_comm (l₁ := [x]) (l₂ := T'))
    · refine down_ok hlt_ord _ 0 _ (by simp) (by simp) ?_ (fun j a b _ _ h => absurd h (Nat.lt_irrefl 0))
      intro j a b hj hp h1 h2
      have hp0 : (j - 1) / 2 ≠ 0 := hp
      have l2 := lt_of_get h2
      simp only [List.length_cons] at l2
      have h1' : (a0 :: (T' ++ [x]))[(j - 1) / 2]? = some a := by
        obtain ⟨q, hq⟩ : ∃ q, (j - 1) / 2 = q + 1 := ⟨(j - 1) / 2 - 1, by omega⟩
        rw [hq, List.getElem?_cons_succ] at h1 ⊢
        rw [List.getElem?_append_left (by omega)]
        exact h1
      have h2' : (a0 :: (T' ++ [x]))[j]? = some b := by
        obtain ⟨q, hq⟩ : ∃ q, j = q + 1 := ⟨j - 1, by omega⟩
        rw [hq, List.getElem?_cons_succ] at h2 ⊢
        rw [List.getElem?_append_left (by omega)]
        exact h2
      exact h j a b hj trivial h1' h2'
theorem back_frsD (M M₀ : Mem) (fs : List (List SBk)) (e u : Option Nat) (g : List SBk) : ((M.frs fs e).fr g u).back (M₀.frs fs e) 0 = (M.hp (if escOk M₀.hl u = true then M.heap.take M₀.hl else M.heap)).frs fs (escMin e u) := by
  simp only [Mem.back, Mem.fr, Mem.frs, List.tail_cons, Nat.zero_le, true_and, Mem.hp, Mem.hl]
  rfl
theorem r_heap_Drain {X : Mem} (hw : X.Wf) (k : Nat) : RF tb f_heap_Heap_law09_Item_Drain [.ptr (.hp k 0) 0] X = some (.fn f_heap_Heap_law09_Item_Drain_1 [] [.ptr (.hp X.heap.length 0) 0], X.hp (X.heap ++ [(0, .cells true [.ptr (.hp k 0) 0])])) := by
  rw [RF_go t_heap_Heap_law09_Item_Drain _ _ rfl, push_hp]
  simp (maxDischargeDepth := 8) only [go_sem, reduceIte, reduceCtorEq, Nat.reduceEqDiff, Nat.reduceAdd, Nat.reduceMul, Nat.reduceSub, Nat.reduceLeDiff, Nat.reduceLT, Nat.reduceBEq, Int.reduceToNat, Int.reduceEq, Int.reduceLT, Int.reduceLE, Int.reduceAdd, Int.reduceSub, Int.reduceMul, Int.reduceNeg, s_heap_Heap_law09_Item_Drain, hw]
  try rw [if_neg (by show ¬ X.heap.length + 1 ≤ X.heap.length; omega)]
  try rfl
theorem r_heap_Drain_1 {D i kb k : Nat} (fs : List (List SBk)) (e : Option Nat) {α : Type} (M : α → Mem) (hvf : α → SV) (nf : α → Int) (Lf : α → List It) (I : α → Option Nat → Prop) (μ : α → Nat) (Fin : Mem → Option Nat → Prop)
    (base : ∀ a u, I a u → D < (M a).dep ∧ (M a).Wf ∧ (M a).hb ≤ k ∧ (∀ j ∈ slFp (hvf a), (M a).hb ≤ j) ∧ hget (M a).heap kb 0 = some (.cells true [.ptr (.hp k 0) 0]) ∧ HeapOwn (M a).heap k (hvf a) (nf a) (Lf a) ∧ (Lf a).length ≤ 4000000)
    (hnil : ∀ a u, I a u → Lf a = [] → Fin (M a) u)
    (hstep : ∀ a u x T, I a u → Lf a = x :: T → ∀ hv' H1 u1, HeapOwn H1 k hv' (nf a) (popL (x :: T)) → Keep (k :: slFp (hvf a)) (M a).heap H1 → (∀ j ∈ slFp hv', j ∈ slFp (hvf a)) →
      ∀ g, ∃ m' d go, RV tb (.yld (.st D i)) [.agg [.int .i64 x.1, .int .i64 x.2.1]] ((((M a).hp H1).frs fs e).fr g (escMin u u1)) = some (.bool go, (m'.frs fs e).fr g (escMin (escMin u u1) d)) ∧ (go = false → Fin m' (escMin (escMin u u1) d)) ∧ (go = true → ∃ b, m' = M b ∧ I b (escMin (escMin u u1) d) ∧ μ b < μ a))
    (a0 : α) (h0 : I a0 none) :
    ∃ m' u, RF tb f_heap_Heap_law09_Item_Drain_1 [.yld (.st D i), .ptr (.hp kb 0) 0] ((M a0).frs fs e) = some (.tup [], (m'.hp (if escOk (M a0).hl u = true then m'.heap.take (M a0).hl else m'.heap)).frs fs (escMin e u)) ∧ Fin m' u := by
  rw [RF_go t_heap_Heap_law09_Item_Drain_1 _ _ rfl, push_fr]
  simp (maxDischargeDepth := 8) only [go_sem, reduceIte, reduceCtorEq, Nat.reduceEqDiff, Nat.reduceAdd, Nat.reduceMul, Nat.reduceSub, Nat.reduceLeDiff, Nat.reduceLT, Nat.reduceBEq, Int.reduceToNat, Int.reduceEq, Int.reduceLT, Int.reduceLE, Int.reduceAdd, Int.reduceSub, Int.reduceMul, Int.reduceNeg, s_heap_Heap_law09_Item_Drain_1]
  refine KL_ind (R := fun z => ∃ m' u, fin [] ((M a0).frs fs e) z = some (.tup [], (m'.hp (if escOk (M a0).hl u = true then m'.heap.take (M a0).hl else m'.heap)).frs fs (escMin e u)) ∧ Fin m' u) (α := α × Option Nat) (fun q => μ q.1)
    (fun _ => [(0, .yld (.st D i)), (1, .ptr (.hp kb 0) 0)]) (fun q => ((M q.1).frs fs e).fr [] q.2) (fun q => I q.1 q.2) ?_ (a0, none) h0
  rintro ⟨a, u⟩ hI ih
  dsimp only at hI ⊢
  obtain ⟨hD, hw, hk, hm, hb, hO, hL⟩ := base a u hI
  have hbl : (M a).load (.hp kb 0) 0 none = some (.ptr (.hp k 0) 0) := by rw [load_get]; show (match hget (M a).heap kb 0 with | some (.cells _ c) => partv c 0 none | _ => none) = _; rw [hb]; rfl
  have hw2 : (((M a).frs fs e).fr [] u).Wf := fr_wf (frs_wf hw _ _) _ _
  have hD2 : D < fs.length + (M a).dep := by omega
  cases hLa : Lf a with
  | nil =>
    rw [hLa] at hO
    have hp0 : RF tb f_heap_Heap_law09_Item_Pop [.ptr (.hp k 0) 0] (((M a).frs fs e).fr [] u) = _ := r_heap_Pop0 (m := Hm (M a).heap) hO.hd (hO.ow.lies itF_even) (X := ((M a).frs fs e).fr [] u) (fun _ _ _ h => h) hw2
    simp (maxDischargeDepth := 8) only [go_sem, reduceIte, reduceCtorEq, Nat.reduceEqDiff, Nat.reduceAdd, Nat.reduceMul, Nat.reduceSub, Nat.reduceLeDiff, Nat.reduceLT, Nat.reduceBEq, Int.reduceToNat, Int.reduceEq, Int.reduceLT, Int.reduceLE, Int.reduceAdd, Int.reduceSub, Int.reduceMul, Int.reduceNeg, hw, hD2, hbl, hp0, back_frsD]
    exact ⟨M a, u, rfl, hnil a u hI hLa⟩
  | cons x T =>
    rw [hLa] at hO hL
    simp (maxDischargeDepth := 8) only [go_sem, reduceIte, reduceCtorEq, Nat.reduceEqDiff, Nat.reduceAdd, Nat.reduceMul, Nat.reduceSub, Nat.reduceLeDiff, Nat.reduceLT, Nat.reduceBEq, Int.reduceToNat, Int.reduceEq, Int.reduceLT, Int.reduceLE, Int.reduceAdd, Int.reduceSub, Int.reduceMul, Int.reduceNeg, hw, hD2, hbl]
    generalize hz : RF tb f_heap_Heap_law09_Item_Pop _ _ = z
    obtain ⟨hv', H1, u1, rfl, hO3, k3, f3⟩ := pop_of (X := ((M a).frs fs e).fr [] u) hz hO (by simp only [List.length_cons] at hL; omega) hk hm hw2
    obtain ⟨m', d, go, hy, h1, h2⟩ := hstep a u x T hI hLa hv' H1 u1 hO3 k3 f3 [.cells true [.int .i64 x.1, .int .i64 x.2.1]]
    simp (maxDischargeDepth := 8) only [go_sem, reduceIte, reduceCtorEq, Nat.reduceEqDiff, Nat.reduceAdd, Nat.reduceMul, Nat.reduceSub, Nat.reduceLeDiff, Nat.reduceLT, Nat.reduceBEq, Int.reduceToNat, Int.reduceEq, Int.reduceLT, Int.reduceLE, Int.reduceAdd, Int.reduceSub, Int.reduceMul, Int.reduceNeg, hw, hbl, hy]
    cases go with
    | false =>
      simp (maxDischargeDepth := 8) only [go_sem, reduceIte, reduceCtorEq, Nat.reduceEqDiff, Nat.reduceAdd, Nat.reduceMul, Nat.reduceSub, Nat.reduceLeDiff, Nat.reduceLT, Nat.reduceBEq, Int.reduceToNat, Int.reduceEq, Int.reduceLT, Int.reduceLE, Int.reduceAdd, Int.reduceSub, Int.reduceMul, Int.reduceNeg, hw, back_frsD]
      exact ⟨m', _, rfl, h1 rfl⟩
    | true =>
      obtain ⟨b, rfl, hb1, hb2⟩ := h2 rfl
      simp (maxDischargeDepth := 8) only [go_sem, reduceIte, reduceCtorEq, Nat.reduceEqDiff, Nat.reduceAdd, Nat.reduceMul, Nat.reduceSub, Nat.reduceLeDiff, Nat.reduceLT, Nat.reduceBEq, Int.reduceToNat, Int.reduceEq, Int.reduceLT, Int.reduceLE, Int.reduceAdd, Int.reduceSub, Int.reduceMul, Int.reduceNeg, hw]
      have hD3 := (base b _ hb1).1
      have hD4 : D < fs.length + (M b).dep := by omega
      rw [KL_keep _ _ _ (by simp (maxDischargeDepth := 8) only [go_sem, reduceIte, reduceCtorEq, Nat.reduceEqDiff, Nat.reduceAdd, Nat.reduceMul, Nat.reduceSub, Nat.reduceLeDiff, Nat.reduceLT, Nat.reduceBEq, Int.reduceToNat, Int.reduceEq, Int.reduceLT, Int.reduceLE, Int.reduceAdd, Int.reduceSub, Int.reduceMul, Int.reduceNeg, hD4])]
      simp (maxDischargeDepth := 8) only [go_sem, reduceIte, reduceCtorEq, Nat.reduceEqDiff, Nat.reduceAdd, Nat.reduceMul, Nat.reduceSub, Nat.reduceLeDiff, Nat.reduceLT, Nat.reduceBEq, Int.reduceToNat, Int.reduceEq, Int.reduceLT, Int.reduceLE, Int.reduceAdd, Int.reduceSub, Int.reduceMul, Int.reduceNeg]
      exact ih (b, _) hb1 hb2
/-- Two heaps that hold the same. -/
structure DrAt (H : Hp) (k1 k2 : Nat) (Hd : Hp) (v1 v2 : SV) (n : Int) (L : List It) : Prop where
  o1 : HeapOwn Hd k1 v1 n L
  o2 : HeapOwn Hd k2 v2 n L
  kk : Keep [] H Hd
  f1 : ∀ j ∈ slFp v1, H.length ≤ j ∧ j ≠ k2
  f2 : ∀ j ∈ slFp v2, H.length ≤ j ∧ j ≠ k1
  dj : ∀ j ∈ slFp v1, j ∉ slFp v2
  kh : H.length ≤ k1 ∧ H.length ≤ k2 ∧ k1 ≠ k2
theorem HeapOwn.keep {H H' : Hp} {k : Nat} {v : SV} {n : Int} {L : List It} {S : List Nat} (h : HeapOwn H k v n L) (kp : Keep S H H') (hk : k ∉ S) (hs : ∀ j ∈ slFp v, j ∉ S) : HeapOwn H' k v n L := ⟨kp.get h.hd hk, h.ow.keep kp hs, h.nk, h.cp⟩
theorem HeapOwn.congr {H H' : Hp} {k : Nat} {v : SV} {n : Int} {L : List It} (h : HeapOwn H k v n L) (hc : ∀ i, i < H.length → i = k ∨ i ∈ slFp v → H'[i]? = H[i]?) : HeapOwn H' k v n L := ⟨by rw [hget_congr (hc k (hget_lt h.hd) (.inl rfl))]; exact h.hd, h.ow.congr fun i hi => hc i (h.ow.fp i hi) (.inr hi), h.nk, h.cp⟩
/-- What is done with the first. -/
theorem DrAt.on1 {H : Hp} {k1 k2 : Nat} {Hd : Hp} {v1 v2 : SV} {n : Int} {L : List It} (h : DrAt H k1 k2 Hd v1 v2 n L) {v1' : SV} {n' : Int} {L' : List It} {H1 : Hp} (hO : HeapOwn H1 k1 v1' n' L') (kp : Keep (k1 :: slFp v1) Hd H1) (fp : ∀ j ∈ slFp v1', j ∈ slFp v1 ∨ Hd.length ≤ j) :
    HeapOwn H1 k2 v2 n L ∧ Keep [] H H1 ∧ (∀ j ∈ slFp v1', H.length ≤ j ∧ j ≠ k2) ∧ (∀ j ∈ slFp v1', j ∉ slFp v2) := by
  refine ⟨h.o2.keep kp (fun hc => ?_) (fun j hj hc => ?_), h.kk.trans' kp (fun m hm hl => ?_), fun j hj => ?_, fun j hj hc => ?_⟩
  · rcases List.mem_cons.1 hc with h' | h'
    · exact h.kh.2.2 h'.symm
    · exact (h.f1 _ h').2 rfl
  · rcases List.mem_cons.1 hc with h' | h'
    · exact (h.f2 j hj).2 h'
    · exact h.dj j h' hj
  · rcases List.mem_cons.1 hm with h' | h'
    · have := h.kh.1; omega
    · have := (h.f1 m h').1; omega
  · rcases fp j hj with h' | h'
    · exact h.f1 j h'
    · have := h.kk.1
      exact ⟨by omega, fun e => by have := hget_lt h.o2.hd; omega⟩
  · rcases fp j hj with h' | h'
    · exact h.dj j h' hc
    · have := h.o2.ow.fp j hc; omega
theorem DrAt.both {H : Hp} {k1 k2 : Nat} {Hd : Hp} {v1 v2 : SV} {n : Int} {L : List It} (h : DrAt H k1 k2 Hd v1 v2 n L) {v1' v2' : SV} {n' : Int} {L' : List It} {H1 H2 : Hp} (hO : HeapOwn H1 k1 v1' n' L') (kp : Keep (k1 :: slFp v1) Hd H1) (fp : ∀ j ∈ slFp v1', j ∈ slFp v1 ∨ Hd.length ≤ j)
    (hO2 : HeapOwn H2 k2 v2' n' L') (kp2 : Keep (k2 :: slFp v2) H1 H2) (fp2 : ∀ j ∈ slFp v2', j ∈ slFp v2 ∨ H1.length ≤ j) : DrAt H k1 k2 H2 v1' v2' n' L' := by
  obtain ⟨q1, q2, q3, q4⟩ := h.on1 hO kp fp
  have dn : ∀ j, j ∈ slFp v1' → j ∉ k2 :: slFp v2 := fun j hj hc => by
    rcases List.mem_cons.1 hc with h' | h'
    · exact (q3 j hj).2 h'
    · exact q4 j hj h'
  have dk : k1 ∉ k2 :: slFp v2 := fun hc => by
    rcases List.mem_cons.1 hc with h' | h'
    · exact h.kh.2.2 h'
    · exact (h.f2 _ h').2 rfl
  refine ⟨hO.keep kp2 dk dn, hO2, q2.trans' kp2 (fun m hm hl => ?_), q3, fun j hj => ?_, fun j hj hc => ?_, h.kh⟩
  · rcases List.mem_cons.1 hm with h' | h'
    · have := h.kh.2.1; omega
    · have := (h.f2 m h').1; omega
  · rcases fp2 j hj with h' | h'
    · exact h.f2 j h'
    · have := q2.1
      exact ⟨by omega, fun e => by have := hget_lt hO.hd; omega⟩
  · rcases fp2 j hc with h' | h'
    · exact q4 j hj h'
    · have := hO.ow.fp j hj; omega
theorem DrAt.congr {H : Hp} {k1 k2 : Nat} {Hd Hr : Hp} {v1 v2 : SV} {n : Int} {L : List It} (h : DrAt H k1 k2 Hd v1 v2 n L) (hc : ∀ i, i = k1 ∨ i = k2 ∨ i ∈ slFp v1 ∨ i ∈ slFp v2 ∨ i < H.length → Hr[i]? = Hd[i]?) (hl : H.length ≤ Hr.length) : DrAt H k1 k2 Hr v1 v2 n L :=
  ⟨h.o1.congr fun i _ hi => hc i (by rcases hi with h | h; exact .inl h; exact .inr (.inr (.inl h))), h.o2.congr fun i _ hi => hc i (by rcases hi with h | h; exact .inr (.inl h); exact .inr (.inr (.inr (.inl h)))),
    ⟨hl, fun i hi hn => by rw [hc i (.inr (.inr (.inr (.inr hi)))), h.kk.2 i hi hn]⟩, h.f1, h.f2, h.dj, h.kh⟩
theorem back_HF {X : Mem} {H H' : Hp} (f f' g g1 : List SBk) (e₀ e₀' e1 u : Option Nat) (h : Nat) : ((((X.hp H').fr f' e₀').fr g1 e1).fr g u).back (((X.hp H).fr f e₀).fr g1 e1) h =
    ((X.hp (if h ≤ H.length ∧ escOk H.length u = true then H'.take H.length else H')).fr f' e₀').fr g1 (escMin e1 u) := by
  unfold Mem.back; rfl
abbrev drM (X : Mem) (n : Int) (k1 k2 : Nat) (c : Int) (kb : Nat) (st : LoopState) (pd : Option Jump) (H : Hp) (e : Option Nat) : Mem :=
  (X.hp H).fr [.cells true [.int .i64 n], .cells true [.bool false], .cells true [.ptr (.hp k2 0) 0], .cells true [.int .i64 c],
    .loop ⟨st, pd, [(3, .ptr (.st X.dep 0) 0), (4, .ptr (.st X.dep 1) 0), (5, .ptr (.hp k1 0) 0), (6, .ptr (.st X.dep 2) 0), (8, .ptr (.st X.dep 3) 0), (43, .fn f_heap_Heap_law09_Item_Drain_1 [] [.ptr (.hp kb 0) 0])], [44], s_law09_HeapDrains_p7, s_law09_HeapDrains_p13⟩] e
theorem r_law09_HeapDrains {X : Mem} {v : SV} {l : List Int} (hl : LiesD iF (Hm X.heap) v l) (hb : l.length ≤ 1100000) (hw : X.Wf) (hhb : X.hb ≤ X.hl) (n : Int) : ∃ m', RF tb f_law09_HeapDrains [v, .int .i64 n] X = some (.bool true, m') := by
  rw [RF_go t_law09_HeapDrains _ _ rfl, push_hp]
  generalize hH : X.heap = H at *
  have hHl : X.hl = H.length := by rw [← hH]; rfl
  have sv := hl.isSl
  simp (maxDischargeDepth := 8) only [go_sem, reduceIte, reduceCtorEq, Nat.reduceEqDiff, Nat.reduceAdd, Nat.reduceMul, Nat.reduceSub, Nat.reduceLeDiff, Nat.reduceLT, Nat.reduceBEq, Int.reduceToNat, Int.reduceEq, Int.reduceLT, Int.reduceLE, Int.reduceAdd, Int.reduceSub, Int.reduceMul, Int.reduceNeg, s_law09_HeapDrains, hw, hH, sv.l, sv.c, sv.k, sv.o]
  generalize hz : RF tb f_law09_awake _ _ = z
  obtain ⟨H0, u0, rfl, kw⟩ := aw09 hz (by simp (maxDischargeDepth := 8) only [go_sem, reduceIte, reduceCtorEq, Nat.reduceEqDiff, Nat.reduceAdd, Nat.reduceMul, Nat.reduceSub, Nat.reduceLeDiff, Nat.reduceLT, Nat.reduceBEq, Int.reduceToNat, Int.reduceEq, Int.reduceLT, Int.reduceLE, Int.reduceAdd, Int.reduceSub, Int.reduceMul, Int.reduceNeg, hw]) (by show X.hb ≤ H.length; omega)
  change Keep _ H H0 at kw
  have l0 := kw.1
  simp (maxDischargeDepth := 8) only [go_sem, reduceIte, reduceCtorEq, Nat.reduceEqDiff, Nat.reduceAdd, Nat.reduceMul, Nat.reduceSub, Nat.reduceLeDiff, Nat.reduceLT, Nat.reduceBEq, Int.reduceToNat, Int.reduceEq, Int.reduceLT, Int.reduceLE, Int.reduceAdd, Int.reduceSub, Int.reduceMul, Int.reduceNeg, hw, sv.l, r_heap_New]
  generalize escMin none u0 = e0
  obtain ⟨HA, hHA⟩ : ∃ HA, H0 ++ [(0, SBk.cells true [.fn f_law09_ahead [] [], .nils, .int .i64 0])] = HA := ⟨_, rfl⟩
  have oA : HeapOwn HA H0.length .nils 0 [] := by rw [← hHA]; exact heap_new H0
  have kA : Keep [] H0 HA := by rw [← hHA]; exact Keep.app _ _ _
  have lA : HA.length = H0.length + 1 := by rw [← hHA, List.length_append]; rfl
  obtain ⟨HB, hHB⟩ : ∃ HB, HA ++ [(0, SBk.cells true [.fn f_law09_ahead [] [], .nils, .int .i64 0])] = HB := ⟨_, rfl⟩
  have oB : HeapOwn HB HA.length .nils 0 [] := by rw [← hHB]; exact heap_new HA
  have kB : Keep [] HA HB := by rw [← hHB]; exact Keep.app _ _ _
  have lB : HB.length = HA.length + 1 := by rw [← hHB, List.length_append]; rfl
  have hAt0 : DrAt H H0.length (H0.length + 1) HB .nils .nils 0 [] := ⟨oA.keep kB (by simp) (by simp), by rw [← lA]; exact oB, (kw.trans kA).trans kB, by simp [slFp], by simp [slFp], by simp [slFp], l0, by omega, by omega⟩
  try rw [hHA]
  rw [hHB]
  rw [KL_keep _ _ _ (by simp (maxDischargeDepth := 8) only [go_sem, reduceIte, reduceCtorEq, Nat.reduceEqDiff, Nat.reduceAdd, Nat.reduceMul, Nat.reduceSub, Nat.reduceLeDiff, Nat.reduceLT, Nat.reduceBEq, Int.reduceToNat, Int.reduceEq, Int.reduceLT, Int.reduceLE, Int.reduceAdd, Int.reduceSub, Int.reduceMul, Int.reduceNeg, sv.l])]
  simp (maxDischargeDepth := 8) only [go_sem, reduceIte, reduceCtorEq, Nat.reduceEqDiff, Nat.reduceAdd, Nat.reduceMul, Nat.reduceSub, Nat.reduceLeDiff, Nat.reduceLT, Nat.reduceBEq, Int.reduceToNat, Int.reduceEq, Int.reduceLT, Int.reduceLE, Int.reduceAdd, Int.reduceSub, Int.reduceMul, Int.reduceNeg]
  rw [lA]
  clear oA kA lA oB kB lB hHA hHB
  generalize H0.length + 1 = k2 at *
  generalize H0.length = k1 at *
  refine KL_ind (R := fun z => ∃ m', fin [.cell 4 none] X z = some (.bool true, m')) (α := Nat × SV × SV × List It × Hp × Option Nat) (fun q => l.length - q.1)
    (fun q => [(0, v), (3, .ptr (.st X.dep 0) 0), (4, .ptr (.st X.dep 1) 0), (5, .ptr (.hp k1 0) 0), (6, .ptr (.st X.dep 2) 0), (7, .int .i64 (q.1 : Int))])
    (fun q => (X.hp q.2.2.2.2.1).fr [.cells true [.int .i64 n], .cells true [.bool false], .cells true [.ptr (.hp k2 0) 0]] q.2.2.2.2.2)
    (fun q => q.1 ≤ l.length ∧ DrAt H k1 k2 q.2.2.2.2.1 q.2.1 q.2.2.1 (q.1 : Int) q.2.2.2.1 ∧ q.2.2.2.1.length = q.1) ?_ (0, .nils, .nils, [], HB, _) ⟨Nat.zero_le _, hAt0, rfl⟩
  clear hAt0
  rintro ⟨i, v1, v2, L, Hc, e⟩ ⟨hi, h, hlen⟩ ih
  dsimp only at hi h hlen ⊢
  have hlc := hl.keep h.kk (by simp)
  simp (maxDischargeDepth := 8) only [go_sem, reduceIte, reduceCtorEq, Nat.reduceEqDiff, Nat.reduceAdd, Nat.reduceMul, Nat.reduceSub, Nat.reduceLeDiff, Nat.reduceLT, Nat.reduceBEq, Int.reduceToNat, Int.reduceEq, Int.reduceLT, Int.reduceLE, Int.reduceAdd, Int.reduceSub, Int.reduceMul, Int.reduceNeg, hw, sv.l, hl.len]
  by_cases hlt1 : i < l.length
  · obtain ⟨a, ha⟩ : ∃ a, l[i]? = some a := ⟨_, List.getElem?_eq_getElem hlt1⟩
    have ia := LiesD.iaddrI hlc (i := (i : Int)) (by omega) (by omega)
    simp only [Int.toNat_natCast] at ia
    simp (maxDischargeDepth := 8) only [go_sem, reduceIte, reduceCtorEq, Nat.reduceEqDiff, Nat.reduceAdd, Nat.reduceMul, Nat.reduceSub, Nat.reduceLeDiff, Nat.reduceLT, Nat.reduceBEq, Int.reduceToNat, Int.reduceEq, Int.reduceLT, Int.reduceLE, Int.reduceAdd, Int.reduceSub, Int.reduceMul, Int.reduceNeg, show decide ((i : Int) < (l.length : Int)) = true from decide_eq_true (by omega), hw, sv.l, ia, hlc.loadI ha, wrap_succ (show i ≤ 4611686018427387903 by omega)]
    generalize hz : RF tb f_heap_Heap_law09_Item_Push _ _ = z
    obtain ⟨v1', H3, u, rfl, hO3, k3, f3⟩ := push_of hz h.o1 (by omega) (by omega) (by have := h.kh.1; show X.hb ≤ k1; omega) (fun j hj => by have := (h.f1 j hj).1; show X.hb ≤ j; omega) (by simp (maxDischargeDepth := 8) only [go_sem, reduceIte, reduceCtorEq, Nat.reduceEqDiff, Nat.reduceAdd, Nat.reduceMul, Nat.reduceSub, Nat.reduceLeDiff, Nat.reduceLT, Nat.reduceBEq, Int.reduceToNat, Int.reduceEq, Int.reduceLT, Int.reduceLE, Int.reduceAdd, Int.reduceSub, Int.reduceMul, Int.reduceNeg, hw])
    change Keep _ Hc H3 at k3
    change ∀ j ∈ slFp v1', j ∈ slFp v1 ∨ Hc.length ≤ j at f3
    obtain ⟨q1, q2, q3, q4⟩ := h.on1 hO3 k3 f3
    have hlc3 := hl.keep q2 (by simp)
    simp (maxDischargeDepth := 8) only [go_sem, reduceIte, reduceCtorEq, Nat.reduceEqDiff, Nat.reduceAdd, Nat.reduceMul, Nat.reduceSub, Nat.reduceLeDiff, Nat.reduceLT, Nat.reduceBEq, Int.reduceToNat, Int.reduceEq, Int.reduceLT, Int.reduceLE, Int.reduceAdd, Int.reduceSub, Int.reduceMul, Int.reduceNeg, hw, sv.l, ia, hlc3.loadI ha]
    generalize hz : RF tb f_heap_Heap_law09_Item_Push _ _ = z
    obtain ⟨v2', H4, u4, rfl, hO4, k4, f4⟩ := push_of hz q1 (by omega) (by omega) (by have := h.kh.2.1; show X.hb ≤ k2; omega) (fun j hj => by have := (h.f2 j hj).1; show X.hb ≤ j; omega) (by simp (maxDischargeDepth := 8) only [go_sem, reduceIte, reduceCtorEq, Nat.reduceEqDiff, Nat.reduceAdd, Nat.reduceMul, Nat.reduceSub, Nat.reduceLeDiff, Nat.reduceLT, Nat.reduceBEq, Int.reduceToNat, Int.reduceEq, Int.reduceLT, Int.reduceLE, Int.reduceAdd, Int.reduceSub, Int.reduceMul, Int.reduceNeg, hw])
    change Keep _ H3 H4 at k4
    change ∀ j ∈ slFp v2', j ∈ slFp v2 ∨ H3.length ≤ j at f4
    simp (maxDischargeDepth := 8) only [go_sem, reduceIte, reduceCtorEq, Nat.reduceEqDiff, Nat.reduceAdd, Nat.reduceMul, Nat.reduceSub, Nat.reduceLeDiff, Nat.reduceLT, Nat.reduceBEq, Int.reduceToNat, Int.reduceEq, Int.reduceLT, Int.reduceLE, Int.reduceAdd, Int.reduceSub, Int.reduceMul, Int.reduceNeg, hw, sv.l, wrap_succ (show i ≤ 4611686018427387903 by omega)]
    rw [KL_keep _ _ _ (by simp (maxDischargeDepth := 8) only [go_sem, reduceIte, reduceCtorEq, Nat.reduceEqDiff, Nat.reduceAdd, Nat.reduceMul, Nat.reduceSub, Nat.reduceLeDiff, Nat.reduceLT, Nat.reduceBEq, Int.reduceToNat, Int.reduceEq, Int.reduceLT, Int.reduceLE, Int.reduceAdd, Int.reduceSub, Int.reduceMul, Int.reduceNeg, sv.l])]
    simp (maxDischargeDepth := 8) only [go_sem, reduceIte, reduceCtorEq, Nat.reduceEqDiff, Nat.reduceAdd, Nat.reduceMul, Nat.reduceSub, Nat.reduceLeDiff, Nat.reduceLT, Nat.reduceBEq, Int.reduceToNat, Int.reduceEq, Int.reduceLT, Int.reduceLE, Int.reduceAdd, Int.reduceSub, Int.reduceMul, Int.reduceNeg]
    have hLn : (upH hlt (L.length + 1) L.length (L ++ [(a, (i : Int), (i : Int))])).length = i + 1 := by rw [(up_perm _ _ _).length_eq, List.length_append, hlen]; rfl
    exact ih (i + 1, v1', v2', _, H4, _) ⟨by dsimp only; omega, h.both hO3 k3 f3 hO4 k4 f4, hLn⟩ (by dsimp only; omega)
  · obtain rfl : i = l.length := by omega
    clear ih
    have hkh := h.kh
    have hlt1 := hget_lt h.o1.hd
    have hlt2 := hget_lt h.o2.hd
    simp (maxDischargeDepth := 8) only [go_sem, reduceIte, reduceCtorEq, Nat.reduceEqDiff, Nat.reduceAdd, Nat.reduceMul, Nat.reduceSub, Nat.reduceLeDiff, Nat.reduceLT, Nat.reduceBEq, Int.reduceToNat, Int.reduceEq, Int.reduceLT, Int.reduceLE, Int.reduceAdd, Int.reduceSub, Int.reduceMul, Int.reduceNeg, show decide ((l.length : Int) < (l.length : Int)) = false from decide_eq_false (by omega), hw, sv.l, hl.len, r_heap_Drain]
    obtain ⟨HD, hHD⟩ : ∃ HD, Hc ++ [(0, SBk.cells true [.ptr (.hp k1 0) 0])] = HD := ⟨_, rfl⟩
    have kD : Keep [] Hc HD := by rw [← hHD]; exact Keep.app _ _ _
    have lD : HD.length = Hc.length + 1 := by rw [← hHD, List.length_append]; rfl
    have bD : hget HD Hc.length 0 = some (.cells true [.ptr (.hp k1 0) 0]) := by rw [← hHD]; exact hget_new0 0 _
    rw [hHD]
    have hAt : DrAt H k1 k2 HD v1 v2 (l.length : Int) L := ⟨h.o1.keep kD (by simp) (by simp), h.o2.keep kD (by simp) (by simp), h.kk.trans kD, h.f1, h.f2, h.dj, h.kh⟩
    have hfp1 := h.o1.ow.fp
    have hfp2 := h.o2.ow.fp
    have hdr := r_heap_Drain_1 [] e (D := X.dep) (i := 4) (kb := Hc.length) (k := k1) (α := Hp × SV × SV × List It × Int) (fun q => drM X n k1 k2 q.2.2.2.2 Hc.length .ready none q.1 e) (fun q => q.2.1) (fun _ => (l.length : Int)) (fun q => q.2.2.2.1)
      (fun q _ => DrAt H k1 k2 q.1 q.2.1 q.2.2.1 (l.length : Int) q.2.2.2.1 ∧ (∀ j ∈ slFp q.2.1, j < Hc.length) ∧ (∀ j ∈ slFp q.2.2.1, j < Hc.length) ∧ hget q.1 Hc.length 0 = some (.cells true [.ptr (.hp k1 0) 0]) ∧ 0 ≤ q.2.2.2.2 ∧ q.2.2.2.2 + q.2.2.2.1.length = l.length) (fun q => q.2.2.2.1.length)
      (fun m _ => ∃ (q : Hp × SV × SV × List It × Int) (st : LoopState) (pd : Option Jump), m = drM X n k1 k2 q.2.2.2.2 Hc.length st pd q.1 e ∧ DrAt H k1 k2 q.1 q.2.1 q.2.2.1 (l.length : Int) q.2.2.2.1 ∧ (∀ j ∈ slFp q.2.1, j < Hc.length) ∧ (∀ j ∈ slFp q.2.2.1, j < Hc.length) ∧ q.2.2.2.1.length ≤ l.length ∧ ((st = .ready ∧ pd = none) ∨ (st = .done ∧ pd = some (.exit 2))))
      ?_ ?_ ?_ (HD, v1, v2, L, 0) ⟨hAt, hfp1, hfp2, bD, Int.le_refl _, by rw [hlen]; exact Int.zero_add _⟩
    · obtain ⟨m', u, hdr, ⟨Hd, w1, w2, L', c⟩, st, pd, rfl, h', g1, g2, g5, hst⟩ := hdr
      dsimp only at h' g1 g2 g5
      simp only [drM, frs_nil_fr] at hdr
      rw [hdr]
      clear hdr
      have hlen0 : ((X.hp HD).fr [SBk.cells true [SV.int .i64 n]] none).hl = HD.length := rfl
      obtain ⟨Hf, hHf⟩ : ∃ Hf, (if escOk HD.length u = true then Hd.take HD.length else Hd) = Hf := ⟨_, rfl⟩
      have hcg : ∀ i, i < HD.length → Hf[i]? = Hd[i]? := fun i hi => by
        rw [← hHf]
        split
        · rw [List.getElem?_take, if_pos hi]
        · rfl
      have hkH := h.kk.1
      have hHl2 : H.length ≤ Hf.length := by
        have := h'.kk.1
        rw [← hHf]
        split
        · rw [List.length_take]; omega
        · omega
      have hf : DrAt H k1 k2 Hf w1 w2 (l.length : Int) L' := h'.congr (fun i hi => hcg i (by
        rcases hi with rfl | rfl | hi | hi | hi
        · omega
        · omega
        · have := g1 i hi; omega
        · have := g2 i hi; omega
        · omega)) hHl2
      have tail : ∀ (b4 : SBk) (e9 : Option Nat), ∃ m', fin [.cell 4 none] X (KL tb [KI.block 4, KI.kp [4, 5], KI.seq ((SCode.kp [4] s_law09_HeapDrains_p21).seq SCode.ret)] 5 (some [4, 5, 6]) s_law09_HeapDrains_p20 [(4, .ptr (.st X.dep 1) 0), (5, .ptr (.hp k1 0) 0), (6, .ptr (.st X.dep 2) 0)] ((X.hp Hf).fr [.cells true [.int .i64 n], .cells true [.bool false], .cells true [.ptr (.hp k2 0) 0], .cells true [.int .i64 c], b4] e9)) = some (.bool true, m') := by
        intro b4 e9
        refine KL_ind (R := fun z => ∃ m', fin [.cell 4 none] X z = some (.bool true, m')) (α := Hp × SV × SV × List It × Option Nat) (fun q => q.2.2.2.1.length)
          (fun q => [(4, .ptr (.st X.dep 1) 0), (5, .ptr (.hp k1 0) 0), (6, .ptr (.st X.dep 2) 0)])
          (fun q => (X.hp q.1).fr [.cells true [.int .i64 n], .cells true [.bool false], .cells true [.ptr (.hp k2 0) 0], .cells true [.int .i64 c], b4] q.2.2.2.2)
          (fun q => DrAt H k1 k2 q.1 q.2.1 q.2.2.1 (l.length : Int) q.2.2.2.1 ∧ q.2.2.2.1.length ≤ l.length) ?_ (Hf, w1, w2, L', e9) ⟨hf, g5⟩
        clear hf g5 h' g1 g2 hcg hHf hHl2
        rintro ⟨Hc, v1, v2, L, e⟩ ⟨h, hle⟩ ih
        dsimp only at h hle ⊢
        cases L with
        | nil =>
          simp (maxDischargeDepth := 8) only [go_sem, reduceIte, reduceCtorEq, Nat.reduceEqDiff, Nat.reduceAdd, Nat.reduceMul, Nat.reduceSub, Nat.reduceLeDiff, Nat.reduceLT, Nat.reduceBEq, Int.reduceToNat, Int.reduceEq, Int.reduceLT, Int.reduceLE, Int.reduceAdd, Int.reduceSub, Int.reduceMul, Int.reduceNeg, hw, r_heap_Len (show (Hm Hc).get (.hp k2 0) = _ from h.o2.hd) (h.o2.ow.lies itF_even), r_heap_Len (show (Hm Hc).get (.hp k1 0) = _ from h.o1.hd) (h.o1.ow.lies itF_even), show decide (((([] : List It).length : Nat) : Int) > 0) = false from rfl, show decide ((0 : Int) > 0) = false from rfl, show ((0 : Int) == 0) = true from rfl]
          generalize hz : RF tb f_law09_awake _ _ = z
          obtain ⟨H', u9, rfl, -⟩ := aw09 hz (by simp (maxDischargeDepth := 8) only [go_sem, reduceIte, reduceCtorEq, Nat.reduceEqDiff, Nat.reduceAdd, Nat.reduceMul, Nat.reduceSub, Nat.reduceLeDiff, Nat.reduceLT, Nat.reduceBEq, Int.reduceToNat, Int.reduceEq, Int.reduceLT, Int.reduceLE, Int.reduceAdd, Int.reduceSub, Int.reduceMul, Int.reduceNeg, hw]) (by have := h.kk.1; show X.hb ≤ Hc.length; omega)
          simp (maxDischargeDepth := 8) only [go_sem, reduceIte, reduceCtorEq, Nat.reduceEqDiff, Nat.reduceAdd, Nat.reduceMul, Nat.reduceSub, Nat.reduceLeDiff, Nat.reduceLT, Nat.reduceBEq, Int.reduceToNat, Int.reduceEq, Int.reduceLT, Int.reduceLE, Int.reduceAdd, Int.reduceSub, Int.reduceMul, Int.reduceNeg, hw]
          exact ⟨_, rfl⟩
        | cons x T =>
          simp (maxDischargeDepth := 8) only [go_sem, reduceIte, reduceCtorEq, Nat.reduceEqDiff, Nat.reduceAdd, Nat.reduceMul, Nat.reduceSub, Nat.reduceLeDiff, Nat.reduceLT, Nat.reduceBEq, Int.reduceToNat, Int.reduceEq, Int.reduceLT, Int.reduceLE, Int.reduceAdd, Int.reduceSub, Int.reduceMul, Int.reduceNeg, hw, r_heap_Len (show (Hm Hc).get (.hp k2 0) = _ from h.o2.hd) (h.o2.ow.lies itF_even), show decide ((((x :: T).length : Nat) : Int) > 0) = true from decide_eq_true (by simp only [List.length_cons]; omega), show decide (((T.length + 1 : Nat) : Int) > 0) = true from decide_eq_true (by omega)]
          generalize hz : RF tb f_heap_Heap_law09_Item_Pop _ _ = z
          obtain ⟨v1', H1', u1, rfl, hO', k1', f1'⟩ := pop_of hz h.o1 (by simp only [List.length_cons] at hle; omega) (by show X.hb ≤ k1; omega) (fun j hj => by have := (h.f1 j hj).1; show X.hb ≤ j; omega) (by simp (maxDischargeDepth := 8) only [go_sem, reduceIte, reduceCtorEq, Nat.reduceEqDiff, Nat.reduceAdd, Nat.reduceMul, Nat.reduceSub, Nat.reduceLeDiff, Nat.reduceLT, Nat.reduceBEq, Int.reduceToNat, Int.reduceEq, Int.reduceLT, Int.reduceLE, Int.reduceAdd, Int.reduceSub, Int.reduceMul, Int.reduceNeg, hw])
          change Keep _ Hc H1' at k1'
          obtain ⟨q1, q2, q3, q4⟩ := h.on1 hO' k1' (fun j hj => .inl (f1' j hj))
          simp (maxDischargeDepth := 8) only [go_sem, reduceIte, reduceCtorEq, Nat.reduceEqDiff, Nat.reduceAdd, Nat.reduceMul, Nat.reduceSub, Nat.reduceLeDiff, Nat.reduceLT, Nat.reduceBEq, Int.reduceToNat, Int.reduceEq, Int.reduceLT, Int.reduceLE, Int.reduceAdd, Int.reduceSub, Int.reduceMul, Int.reduceNeg, hw]
          generalize hz : RF tb f_heap_Heap_law09_Item_Pop _ _ = z
          obtain ⟨v2', H2', u2, rfl, hO2, k2', f2'⟩ := pop_of hz q1 (by simp only [List.length_cons] at hle; omega) (by show X.hb ≤ k2; omega) (fun j hj => by have := (h.f2 j hj).1; show X.hb ≤ j; omega) (by simp (maxDischargeDepth := 8) only [go_sem, reduceIte, reduceCtorEq, Nat.reduceEqDiff, Nat.reduceAdd, Nat.reduceMul, Nat.reduceSub, Nat.reduceLeDiff, Nat.reduceLT, Nat.reduceBEq, Int.reduceToNat, Int.reduceEq, Int.reduceLT, Int.reduceLE, Int.reduceAdd, Int.reduceSub, Int.reduceMul, Int.reduceNeg, hw])
          change Keep _ H1' H2' at k2'
          simp (maxDischargeDepth := 8) only [go_sem, reduceIte, reduceCtorEq, Nat.reduceEqDiff, Nat.reduceAdd, Nat.reduceMul, Nat.reduceSub, Nat.reduceLeDiff, Nat.reduceLT, Nat.reduceBEq, Int.reduceToNat, Int.reduceEq, Int.reduceLT, Int.reduceLE, Int.reduceAdd, Int.reduceSub, Int.reduceMul, Int.reduceNeg, hw, show ∀ n : Int, (n == n) = true from fun n => by simp]
          rw [KL_keep _ _ _ (by simp (maxDischargeDepth := 8) only [go_sem, reduceIte, reduceCtorEq, Nat.reduceEqDiff, Nat.reduceAdd, Nat.reduceMul, Nat.reduceSub, Nat.reduceLeDiff, Nat.reduceLT, Nat.reduceBEq, Int.reduceToNat, Int.reduceEq, Int.reduceLT, Int.reduceLE, Int.reduceAdd, Int.reduceSub, Int.reduceMul, Int.reduceNeg])]
          simp (maxDischargeDepth := 8) only [go_sem, reduceIte, reduceCtorEq, Nat.reduceEqDiff, Nat.reduceAdd, Nat.reduceMul, Nat.reduceSub, Nat.reduceLeDiff, Nat.reduceLT, Nat.reduceBEq, Int.reduceToNat, Int.reduceEq, Int.reduceLT, Int.reduceLE, Int.reduceAdd, Int.reduceSub, Int.reduceMul, Int.reduceNeg]
          have hpl : (popL (x :: T)).length = T.length := (pop_perm x T).1.length_eq
          simp only [List.length_cons] at hle
          exact ih (H2', v1', v2', popL (x :: T), _) ⟨h.both hO' k1' (fun j hj => .inl (f1' j hj)) hO2 k2' (fun j hj => .inl (f2' j hj)), by dsimp only; omega⟩ (by dsimp only; simp only [List.length_cons]; omega)
      rcases hst with ⟨rfl, rfl⟩ | ⟨rfl, rfl⟩
      · simp (maxDischargeDepth := 8) only [go_sem, reduceIte, reduceCtorEq, Nat.reduceEqDiff, Nat.reduceAdd, Nat.reduceMul, Nat.reduceSub, Nat.reduceLeDiff, Nat.reduceLT, Nat.reduceBEq, Int.reduceToNat, Int.reduceEq, Int.reduceLT, Int.reduceLE, Int.reduceAdd, Int.reduceSub, Int.reduceMul, Int.reduceNeg, hw, hHf]
        exact tail _ _
      · simp (maxDischargeDepth := 8) only [go_sem, reduceIte, reduceCtorEq, Nat.reduceEqDiff, Nat.reduceAdd, Nat.reduceMul, Nat.reduceSub, Nat.reduceLeDiff, Nat.reduceLT, Nat.reduceBEq, Int.reduceToNat, Int.reduceEq, Int.reduceLT, Int.reduceLE, Int.reduceAdd, Int.reduceSub, Int.reduceMul, Int.reduceNeg, hw, hHf]
        exact tail _ _
    · rintro ⟨Hd, v1, v2, L, c⟩ u ⟨h, g1, g2, g3, g4, g5⟩
      dsimp only at h g1 g2 g3 g4 g5 ⊢
      refine ⟨?_, fr_wf (hp_wf hw) _ _, ?_, fun j hj => ?_, g3, h.o1, by omega⟩
      · show X.dep < ((X.hp Hd).fr _ _).dep; rw [fr_dep]; exact Nat.lt_succ_self _
      · show X.hb ≤ k1; omega
      · have := (h.f1 j hj).1; show X.hb ≤ j; omega
    · rintro ⟨Hd, v1, v2, L, c⟩ u ⟨h, g1, g2, g3, g4, g5⟩ hL
      exact ⟨(Hd, v1, v2, L, c), _, _, rfl, h, g1, g2, by dsimp only at *; omega, .inl ⟨rfl, rfl⟩⟩
    · rintro ⟨Hd, v1, v2, L, c⟩ u x T ⟨h, g1, g2, g3, g4, g5⟩ hL v1' H1' u1 hO' k1' f1' g
      dsimp only at h hL k1' f1' g1 g2 g3 g4 g5 ⊢
      subst hL
      change Keep _ Hd H1' at k1'
      obtain ⟨q1, q2, q3, q4⟩ := h.on1 hO' k1' (fun j hj => .inl (f1' j hj))
      rw [RV_go (l := ⟨.ready, none, _, _, _, _⟩) _ _ _ (by simp (maxDischargeDepth := 8) only [go_sem, reduceIte, reduceCtorEq, Nat.reduceEqDiff, Nat.reduceAdd, Nat.reduceMul, Nat.reduceSub, Nat.reduceLeDiff, Nat.reduceLT, Nat.reduceBEq, Int.reduceToNat, Int.reduceEq, Int.reduceLT, Int.reduceLE, Int.reduceAdd, Int.reduceSub, Int.reduceMul, Int.reduceNeg, drM]; rfl) rfl rfl (by simp (maxDischargeDepth := 8) only [go_sem, reduceIte, reduceCtorEq, Nat.reduceEqDiff, Nat.reduceAdd, Nat.reduceMul, Nat.reduceSub, Nat.reduceLeDiff, Nat.reduceLT, Nat.reduceBEq, Int.reduceToNat, Int.reduceEq, Int.reduceLT, Int.reduceLE, Int.reduceAdd, Int.reduceSub, Int.reduceMul, Int.reduceNeg, drM, hw])]
      simp (maxDischargeDepth := 8) only [go_sem, reduceIte, reduceCtorEq, Nat.reduceEqDiff, Nat.reduceAdd, Nat.reduceMul, Nat.reduceSub, Nat.reduceLeDiff, Nat.reduceLT, Nat.reduceBEq, Int.reduceToNat, Int.reduceEq, Int.reduceLT, Int.reduceLE, Int.reduceAdd, Int.reduceSub, Int.reduceMul, Int.reduceNeg, drM, hw]
      generalize hz : RF tb f_heap_Heap_law09_Item_Pop _ _ = z
      obtain ⟨v2', H2', u2, rfl, hO2, k2', f2'⟩ := pop_of hz q1 (by simp only [List.length_cons] at g5; omega) (by show X.hb ≤ k2; omega) (fun j hj => by have := (h.f2 j hj).1; show X.hb ≤ j; omega) (by simp (maxDischargeDepth := 8) only [go_sem, reduceIte, reduceCtorEq, Nat.reduceEqDiff, Nat.reduceAdd, Nat.reduceMul, Nat.reduceSub, Nat.reduceLeDiff, Nat.reduceLT, Nat.reduceBEq, Int.reduceToNat, Int.reduceEq, Int.reduceLT, Int.reduceLE, Int.reduceAdd, Int.reduceSub, Int.reduceMul, Int.reduceNeg, hw])
      change Keep _ H1' H2' at k2'
      have wc : IntKind.wrap .i64 (c + 1) = c + 1 := wrap_small (by omega) (by omega)
      have hB := h.both hO' k1' (fun j hj => .inl (f1' j hj)) hO2 k2' (fun j hj => .inl (f2' j hj))
      obtain ⟨Hr, hHr⟩ : ∃ Hr, (if escOk H1'.length u2 = true then H2'.take H1'.length else H2') = Hr := ⟨_, rfl⟩
      have hcg : ∀ i, i < H1'.length → Hr[i]? = H2'[i]? := fun i hi => by
        rw [← hHr]
        split
        · rw [List.getElem?_take, if_pos hi]
        · rfl
      have hk1l := k1'.1
      have hk2l := k2'.1
      have hrl : H1'.length ≤ Hr.length := by
        rw [← hHr]
        split
        · rw [List.length_take]; omega
        · omega
      have hpl : (popL (x :: T)).length = T.length := (pop_perm x T).1.length_eq
      simp only [List.length_cons] at g5
      have gb := hget_lt g3
      have gk1 := hget_lt h.o1.hd
      have gk2 := hget_lt h.o2.hd
      have hH0 := h.kk.1
      have hBr : DrAt H k1 k2 Hr v1' v2' (l.length : Int) (popL (x :: T)) := hB.congr (fun i hi => hcg i (by
        rcases hi with rfl | rfl | hi | hi | hi
        · omega
        · omega
        · have := g1 i (f1' i hi); omega
        · have := g2 i (f2' i hi); omega
        · omega)) (by omega)
      have hbr : hget Hr Hc.length 0 = some (.cells true [.ptr (.hp k1 0) 0]) := by
        rw [hget_congr (hcg _ (by omega))]
        refine k2'.get (k1'.get g3 (fun hc => ?_)) (fun hc => ?_)
        · rcases List.mem_cons.1 hc with h' | h'
          · omega
          · have := g1 _ h'; omega
        · rcases List.mem_cons.1 hc with h' | h'
          · omega
          · have := g2 _ h'; omega
      simp (maxDischargeDepth := 8) only [go_sem, reduceIte, reduceCtorEq, Nat.reduceEqDiff, Nat.reduceAdd, Nat.reduceMul, Nat.reduceSub, Nat.reduceLeDiff, Nat.reduceLT, Nat.reduceBEq, Int.reduceToNat, Int.reduceEq, Int.reduceLT, Int.reduceLE, Int.reduceAdd, Int.reduceSub, Int.reduceMul, Int.reduceNeg, hw, show ∀ n : Int, (n == n) = true from fun n => by simp, wc]
      by_cases hcn : c + 1 ≥ n
      · simp (maxDischargeDepth := 8) only [go_sem, reduceIte, reduceCtorEq, Nat.reduceEqDiff, Nat.reduceAdd, Nat.reduceMul, Nat.reduceSub, Nat.reduceLeDiff, Nat.reduceLT, Nat.reduceBEq, Int.reduceToNat, Int.reduceEq, Int.reduceLT, Int.reduceLE, Int.reduceAdd, Int.reduceSub, Int.reduceMul, Int.reduceNeg, hw, show decide (c + 1 ≥ n) = true from decide_eq_true hcn, back_HF, hHr]
        exact ⟨_, u2, false, rfl, fun _ => ⟨(Hr, v1', v2', popL (x :: T), c + 1), _, _, rfl, hBr, fun j hj => g1 j (f1' j hj), fun j hj => g2 j (f2' j hj), by dsimp only; omega, .inr ⟨rfl, rfl⟩⟩, fun h => by cases h⟩
      · simp (maxDischargeDepth := 8) only [go_sem, reduceIte, reduceCtorEq, Nat.reduceEqDiff, Nat.reduceAdd, Nat.reduceMul, Nat.reduceSub, Nat.reduceLeDiff, Nat.reduceLT, Nat.reduceBEq, Int.reduceToNat, Int.reduceEq, Int.reduceLT, Int.reduceLE, Int.reduceAdd, Int.reduceSub, Int.reduceMul, Int.reduceNeg, hw, show decide (c + 1 ≥ n) = false from decide_eq_false hcn, back_HF, hHr]
        exact ⟨_, u2, true, rfl, fun h => (by cases h), fun _ => ⟨(Hr, v1', v2', popL (x :: T), c + 1), rfl, ⟨hBr, fun j hj => g1 j (f1' j hj), fun j hj => g2 j (f2' j hj), hbr, by dsimp only; omega, by dsimp only; omega⟩, by dsimp only; omega⟩⟩
theorem law09_HeapDrains {P : Program} {e : TypeId} {ok : Int → Prop} (s : Sl Int) (hok : slOk P e ok s) (h8 : P.bytesOf e = 8) {n0 n1 : In} (e0 : n0.map (·.2) = slB iF s) (e1 : n1.map (·.2) = []) (hs : s.l.length ≤ 1048576) (n : Int) : ∃ m', RF tb f_law09_HeapDrains [slV iF s ([] : In).length, .int .i64 n] (In.mem (([] ++ n0) ++ n1)) = some (.bool true, m') := by
  have e2 : n1 = [] := by simpa using e1
  subst e2
  rw [List.append_nil]
  have hl := sl_inG iF_even hok (pre := []) (n0 := n0) (post := []) (A := []) (B := []) (by simpa using e0)
  rw [List.append_nil] at hl
  exact r_law09_HeapDrains (X := In.mem ([] ++ n0)) hl (by omega) (In.wf _) (Nat.zero_le _) n
end Go.Sh.T
