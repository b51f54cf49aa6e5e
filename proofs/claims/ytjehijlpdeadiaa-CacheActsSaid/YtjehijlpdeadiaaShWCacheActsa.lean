import Derived.Test.YtjehijlpdeadiaaShTabCacheActs
import Derived.Test.YtjehijlpdeadiaaShArg
set_option linter.all false
set_option linter.unusedVariables false
set_option linter.unusedSimpArgs false
set_option autoImplicit false
namespace Go.Sh.T
open Go.Sh
set_option maxHeartbeats 8000000
set_option maxRecDepth 20000
def nearP (x : Int) : Bool := decide (-1048576 ≤ x) && decide (x ≤ 1048576)
def nearC (x y : Int) : Bool := nearP x && nearP y
def turnX (d : Int) : Int := if d = 0 then 1 else if d = 2 then -1 else if d = 4 then 1 else if d = 5 then -1 else if d = 6 then -1 else if d = 7 then 1 else 0
def turnY (d : Int) : Int := if d = 1 then 1 else if d = 3 then -1 else if d = 4 then 1 else if d = 5 then 1 else if d = 6 then -1 else if d = 7 then -1 else 0
def isDir (d : Int) : Bool := decide (0 ≤ d) && decide (d ≤ 7)
def stepOk (x y d : Int) : Bool := isDir d && nearC x y && nearC (x + turnX d) (y + turnY d)
theorem wrap_small {x : Int} (h1 : -9223372036854775808 ≤ x) (h2 : x ≤ 9223372036854775807) : IntKind.wrap .i64 x = x := by
  simp only [IntKind.wrap, IntKind.bits, IntKind.signed]
  simp
  omega
def costP (d : Int) : Int := if isDir d then if d < 4 then 10 else 14 else 0
def sideOk (x y d : Int) : Bool := stepOk x y d && decide (4 ≤ d)
def lastX (x w : Int) : Int := IntKind.wrap .i64 (IntKind.wrap .i64 (x + w) - 1)
abbrev rect (x y w h : Int) : SV := .agg [.int .i64 x, .int .i64 y, .int .i64 w, .int .i64 h]
def sideB (n : Int) : Bool := decide (1 ≤ n) && decide (n ≤ 1048576)
def mayB (x y w h : Int) : Bool := nearC x y && sideB w && sideB h && nearC (lastX x w) (lastX y h)
def hasB (x y w h a b : Int) : Bool := mayB x y w h && (decide (x ≤ a) && decide (y ≤ b) && decide (a ≤ lastX x w) && decide (b ≤ lastX y h))
def withinB (x y w h a b c d : Int) : Bool := mayB x y w h && hasB a b c d x y && hasB a b c d (lastX x w) (lastX y h)
def wl (p x : Int) : Int := IntKind.wrap .i64 (IntKind.wrap .i64 (p - x) + 1)
theorem wl1 {p x : Int} (h1 : -3000000 ≤ p ∧ p ≤ 3000000) (h2 : -3000000 ≤ x ∧ x ≤ 3000000) : wl p x = p - x + 1 := by
  unfold wl
  rw [wrap_small (x := p - x) (by omega) (by omega), wrap_small (by omega) (by omega)]
abbrev cellV (a b : Int) : SV := .agg [.int .i64 a, .int .i64 b]
/-- A rectangle's cells, row by row. -/
def cellsP (x y w h : Int) : List (Int × Int) := if mayB x y w h then (List.range (w.toNat * h.toNat)).map fun n => (x + ((n % w.toNat : Nat) : Int), y + ((n / w.toNat : Nat) : Int)) else []
abbrev Rc := Int × Int × Int × Int
abbrev Bld := Int × Rc
abbrev rectR (r : Rc) : SV := rect r.1 r.2.1 r.2.2.1 r.2.2.2
def rectF : Fl Rc := Fl.pair (Fl.int .i64) (Fl.pair (Fl.int .i64) (Fl.pair (Fl.int .i64) (Fl.int .i64)))
def bldF : Fl Bld := Fl.pair (Fl.int .i64) rectF
abbrev byteF : Fl Int := Fl.int .u8
def hasR (r : Rc) (a b : Int) : Bool := hasB r.1 r.2.1 r.2.2.1 r.2.2.2 a b
section
variable {α β : Type} [DecidableEq α]
def alGet (k : α) : List (α × β) → Option β
  | [] => none
  | (a, v) :: r => if k = a then some v else alGet k r
def alSet (k : α) (x : β) : List (α × β) → List (α × β)
  | [] => [(k, x)]
  | (a, v) :: r => if k = a then (k, x) :: r else (a, v) :: alSet k x r
def alDel (k : α) : List (α × β) → List (α × β)
  | [] => []
  | (a, v) :: r => if k = a then r else (a, v) :: alDel k r
def alV (f : α → SV) (g : β → SV) (l : List (α × β)) : List (SV × SV) := l.map fun x => (f x.1, g x.2)
variable {f : α → SV} {g : β → SV} (hf : ∀ a b, seq (f a) (f b) = some (decide (a = b)))
include hf
theorem assoc_al (k : α) (l : List (α × β)) : assoc (f k) (alV f g l) = some ((alGet k l).map g) := by
  induction l with
  | nil => rfl
  | cons x r ih =>
    obtain ⟨a, v⟩ := x
    simp only [alV, List.map_cons, assoc, hf, alGet]
    by_cases e : k = a
    · simp [e]
    · simp only [e, decide_false, if_false]; exact ih
theorem set_al (k : α) (x : β) (l : List (α × β)) : assocSet (f k) (g x) (alV f g l) = alV f g (alSet k x l) := by
  induction l with
  | nil => rfl
  | cons y r ih =>
    obtain ⟨a, v⟩ := y
    simp only [alV, List.map_cons, assocSet, hf, alSet]
    by_cases e : k = a
    · simp [e]
    · simp only [e, decide_false, if_false, List.map_cons, List.cons.injEq, true_and]; exact ih
theorem del_al (k : α) (l : List (α × β)) : assocDel (f k) (alV f g l) = alV f g (alDel k l) := by
  induction l with
  | nil => rfl
  | cons y r ih =>
    obtain ⟨a, v⟩ := y
    simp only [alV, List.map_cons, assocDel, hf, alDel]
    by_cases e : k = a
    · simp [e]
    · simp only [e, decide_false, if_false, List.map_cons, List.cons.injEq, true_and]; exact ih
end
theorem alGet_set {α β : Type} [DecidableEq α] (k j : α) (x : β) (l : List (α × β)) : alGet j (alSet k x l) = if j = k then some x else alGet j l := by
  induction l with
  | nil => simp [alSet, alGet]
  | cons y r ih =>
    obtain ⟨a, v⟩ := y
    unfold alSet
    by_cases e : k = a
    · subst e
      simp only [if_true, alGet]
      split <;> rfl
    · simp only [if_neg e, alGet, ih]
      by_cases h1 : j = k
      · subst h1; simp [e]
      · simp only [if_neg h1]
theorem alDel_get {α β : Type} [DecidableEq α] (k j : α) (l : List (α × β)) (h : (l.map Prod.fst).Nodup) : alGet j (alDel k l) = if j = k then none else alGet j l := by
  induction l with
  | nil => simp [alDel, alGet]
  | cons y r ih =>
    obtain ⟨a, v⟩ := y
    simp only [List.map_cons, List.nodup_cons] at h
    simp only [alDel]
    by_cases e : k = a
    · subst e
      rw [if_pos rfl]
      by_cases h1 : j = k
      · subst h1
        rw [if_pos rfl]
        have hno : ∀ (r : List (α × β)), j ∉ r.map Prod.fst → alGet j r = none := by
          intro r
          induction r with
          | nil => intro _; rfl
          | cons z r ih2 =>
            intro hz
            simp only [List.map_cons, List.mem_cons, not_or] at hz
            simp only [alGet, if_neg hz.1]; exact ih2 hz.2
        exact hno r h.1
      · simp only [if_neg h1, alGet]
    · rw [if_neg e]
      simp only [alGet, ih h.2]
      by_cases h1 : j = k
      · subst h1; rw [if_neg e]; simp
      · simp only [if_neg h1]
theorem alDel_keys {α β : Type} [DecidableEq α] (k : α) (l : List (α × β)) (h : (l.map Prod.fst).Nodup) : ((alDel k l).map Prod.fst).Nodup := by
  have sub : ∀ l : List (α × β), (alDel k l).Sublist l := by
    intro l
    induction l with
    | nil => exact .slnil
    | cons y r ih =>
      obtain ⟨a, v⟩ := y
      simp only [alDel]
      split
      · exact .cons _ (List.Sublist.refl _)
      · exact .cons_cons _ ih
  exact h.sublist ((sub l).map _)
theorem alSet_keys {α β : Type} [DecidableEq α] (k : α) (x : β) (l : List (α × β)) (h : (l.map Prod.fst).Nodup) : ((alSet k x l).map Prod.fst).Nodup := by
  have mem : ∀ l : List (α × β), ∀ j ∈ (alSet k x l).map Prod.fst, j = k ∨ j ∈ l.map Prod.fst := by
    intro l
    induction l with
    | nil => intro j hj; simp [alSet] at hj; exact .inl hj
    | cons y r ih =>
      obtain ⟨a, v⟩ := y
      intro j hj
      simp only [alSet] at hj
      split at hj
      · rename_i e
        simp only [List.map_cons, List.mem_cons] at hj ⊢
        rcases hj with h | h
        · exact .inl h
        · exact .inr (.inr h)
      · simp only [List.map_cons, List.mem_cons] at hj ⊢
        rcases hj with h | h
        · exact .inr (.inl h)
        · rcases ih j h with h | h
          · exact .inl h
          · exact .inr (.inr h)
  induction l with
  | nil => simp [alSet]
  | cons y r ih =>
    obtain ⟨a, v⟩ := y
    simp only [List.map_cons, List.nodup_cons] at h
    simp only [alSet]
    split
    · rename_i e
      subst e
      simp only [List.map_cons, List.nodup_cons]; exact h
    · rename_i e
      simp only [List.map_cons, List.nodup_cons]
      refine ⟨fun hc => ?_, ih h.2⟩
      rcases mem r a hc with h1 | h1
      · exact e h1.symm
      · exact h.1 h1
abbrev intV (n : Int) : SV := .int .i64 n
abbrev cellW (c : Int × Int) : SV := cellV c.1 c.2
structure Wd where
  w : Int
  h : Int
  tiles : List Int
  bl : List Bld
  dirty : List Rc
/-- The building that has a cell. -/
def atL (l : List Bld) (a b : Int) : Option Int := (l.find? fun x => hasR x.2 a b).map (·.1)
def Wd.tile (W : Wd) (a b : Int) : Int := (W.tiles[(b * W.w + a).toNat]?).getD 0
def Wd.has (W : Wd) (a b : Int) : Bool := hasB 0 0 W.w W.h a b
structure WP where
  k : Nat
  kb : Nat
  ko : Nat
  tv : SV
  dv : SV
  on : List ((Int × Int) × Int)
def WP.fp (p : WP) : List Nat := [p.k, p.kb, p.ko] ++ slFp p.tv ++ slFp p.dv
structure WorldAt (m : Mem) (p : WP) (W : Wd) : Prop where
  hd : m.get (.hp p.k 0) = some (.cells true [.int .i64 W.w, .int .i64 W.h, p.tv, .map (.hp p.kb 0), .map (.hp p.ko 0), p.dv])
  bt : m.get (.hp p.kb 0) = some (.map (alV intV rectR W.bl))
  ot : m.get (.hp p.ko 0) = some (.map (alV cellW intV p.on))
  tl : LiesD byteF m p.tv W.tiles
  dl : LiesD rectF m p.dv W.dirty
  on : ∀ a b, alGet (a, b) p.on = atL W.bl a b
  w1 : 1 ≤ W.w ∧ W.w ≤ 128
  h1 : 1 ≤ W.h ∧ W.h ≤ 128
  len : (W.tiles.length : Int) = W.w * W.h
  nd : p.fp.Nodup
  ond : (p.on.map Prod.fst).Nodup
section
variable {m X : Mem} {p : WP} {W : Wd} (hW : WorldAt m p W) (hX : HpSub m X)
include hW hX
theorem WorldAt.sub : WorldAt X p W := ⟨hX _ _ _ hW.hd, hX _ _ _ hW.bt, hX _ _ _ hW.ot, hW.tl.sub hX, hW.dl.sub hX, hW.on, hW.w1, hW.h1, hW.len, hW.nd, hW.ond⟩
theorem WorldAt.ld (off : Nat) (n : Option Nat) : X.load (.hp p.k 0) off n = partv [.int .i64 W.w, .int .i64 W.h, p.tv, .map (.hp p.kb 0), .map (.hp p.ko 0), p.dv] off n := by rw [load_get, hX _ _ _ hW.hd]
theorem WorldAt.go : X.get (.hp p.ko 0) = some (.map (alV cellW intV p.on)) := hX _ _ _ hW.ot
end
def bmayB (b : Bld) (q : Rc) : Bool := decide (b.1 ≥ 1) && decide (b.1 ≤ 2147483647) && decide (b.2.2.2.1 ≤ 8) && decide (b.2.2.2.2 ≤ 8) && withinB b.2.1 b.2.2.1 b.2.2.2.1 b.2.2.2.2 q.1 q.2.1 q.2.2.1 q.2.2.2
def Wd.all (W : Wd) : Rc := (0, 0, W.w, W.h)
def Wd.full (W : Wd) (r : Rc) : Bool := (cellsP r.1 r.2.1 r.2.2.1 r.2.2.2).any fun c => (atL W.bl c.1 c.2).isSome
def Wd.may (W : Wd) (b : Bld) : Int := if bmayB b W.all = false then 1 else if (alGet b.1 W.bl).isSome then 8 else if W.bl.length ≥ 256 then 2 else if W.full b.2 then 6 else 0
structure WP.Apart (p : WP) : Prop where
  a : ¬ p.kb = p.k
  b : ¬ p.ko = p.k
  c : ¬ p.kb = p.ko
  d : ¬ p.ko = p.kb
  a' : ¬ p.k = p.kb
  b' : ¬ p.k = p.ko
  t : ∀ i ∈ slFp p.tv, i ≠ p.k ∧ i ≠ p.kb ∧ i ≠ p.ko ∧ i ∉ slFp p.dv
  e : ∀ i ∈ slFp p.dv, i ≠ p.k ∧ i ≠ p.kb ∧ i ≠ p.ko
theorem WorldAt.congr {A B : Hp} {p : WP} {W : Wd} (h : WorldAt (Hm A) p W) (hc : ∀ i ∈ p.fp, B[i]? = A[i]?) : WorldAt (Hm B) p W :=
  ⟨(hget_congr (hc _ (by simp [WP.fp])) 0).trans h.hd, (hget_congr (hc _ (by simp [WP.fp])) 0).trans h.bt, (hget_congr (hc _ (by simp [WP.fp])) 0).trans h.ot,
    h.tl.congr fun i hi => hc i (by simp [WP.fp, hi]), h.dl.congr fun i hi => hc i (by simp [WP.fp, hi]), h.on, h.w1, h.h1, h.len, h.nd, h.ond⟩
theorem WorldAt.lt {H : Hp} {p : WP} {W : Wd} (h : WorldAt (Hm H) p W) : ∀ i ∈ p.fp, i < H.length := by
  intro i hi
  simp only [WP.fp, List.cons_append, List.nil_append, List.mem_cons, List.mem_append] at hi
  rcases hi with rfl | rfl | rfl | hi | hi
  · exact hget_lt h.hd
  · exact hget_lt h.bt
  · exact hget_lt h.ot
  · exact h.tl.fp i hi
  · exact h.dl.fp i hi
structure WorldOwn (H : Hp) (p : WP) (W : Wd) : Prop where
  at_ : WorldAt (Hm H) p W
  own : Own rectF H p.dv W.dirty
theorem WorldOwn.congr {A B : Hp} {p : WP} {W : Wd} (h : WorldOwn A p W) (hc : ∀ i ∈ p.fp, B[i]? = A[i]?) : WorldOwn B p W :=
  ⟨h.at_.congr hc, h.own.congr fun i hi => hc i (by simp [WP.fp, hi])⟩
theorem wrap_succ {i : Nat} (h : i ≤ 4611686018427387903) : IntKind.wrap .i64 ((i : Int) + 1) = ((i + 1 : Nat) : Int) := by rw [wrap_small (by omega) (by omega)]; rfl
abbrev Ky := Int × Int × Int × Int × Int × Int
def kyF : Fl Ky := Fl.pair (Fl.int .i64) (Fl.pair (Fl.int .i64) (Fl.pair (Fl.int .i64) (Fl.pair (Fl.int .i64) (Fl.pair (Fl.int .i64) (Fl.int .i64)))))
theorem kyF_even : kyF.Even := ⟨fun _ => rfl⟩
theorem kyF_ok (l : List Ky) : SV.cellsOk 0 0 (l.flatMap kyF.enc) = true := cellsOk_flat (fun _ => rfl) l
theorem kyF_hxs (l : List Ky) : SV.hxs (l.flatMap kyF.enc) = 0 := by induction l with | nil => rfl | cons a l ih => simp only [List.flatMap_cons]; exact ih
abbrev kyC (k : Ky) : List SV := [.int .i64 k.1, .int .i64 k.2.1, .int .i64 k.2.2.1, .int .i64 k.2.2.2.1, .int .i64 k.2.2.2.2.1, .int .i64 k.2.2.2.2.2]
abbrev kyV (k : Ky) : SV := .agg [.int .i64 k.1, .int .i64 k.2.1, .int .i64 k.2.2.1, .int .i64 k.2.2.2.1, .int .i64 k.2.2.2.2.1, .int .i64 k.2.2.2.2.2]
theorem seq_ky (a b : Ky) : seq (kyV a) (kyV b) = some (decide (a = b)) := by
  obtain ⟨a1, a2, a3, a4, a5, a6⟩ := a
  obtain ⟨b1, b2, b3, b4, b5, b6⟩ := b
  simp only [seq, seqs, if_true, Bool.and_true, Option.some.injEq]
  rw [Bool.eq_iff_iff]
  simp
abbrev Wv := Int × SV
abbrev wvV (w : Wv) : SV := .agg [.int .i64 w.1, w.2]
def wvF : Fl Wv := ⟨2, fun w => [.int .i64 w.1, w.2]⟩
theorem wvF_even : wvF.Even := ⟨fun _ => rfl⟩
theorem wv_ok {l : List Wv} (h : ∀ w ∈ l, IsSl w.2) : SV.cellsOk 0 0 (l.flatMap wvF.enc) = true := by
  induction l with
  | nil => rfl
  | cons a l ih =>
    rw [List.flatMap_cons]
    simp only [SV.cellsOk, List.all_append, Bool.and_eq_true] at *
    refine ⟨?_, ih (fun w hw => h w (List.mem_cons_of_mem _ hw))⟩
    have := (h a List.mem_cons_self).o 0 0
    simp [wvF, this]
    rfl
theorem assoc_ky {β : Type} (g : β → SV) (k : Ky) (l : List (Ky × β)) : assoc (kyV k) (alV kyV g l) = some ((alGet k l).map g) := assoc_al seq_ky k l
/-! Appending, where what is held may hold slices. -/
section
variable {α : Type} {d : Fl α} {H : Hp} {v y : SV} {l k : List α}
theorem app_ownP (hd : d.Even) (hp : 0 < d.sz) (hok : SV.cellsOk 0 0 (l.flatMap d.enc) = true) (hok2 : SV.cellsOk 0 0 (k.flatMap d.enc) = true) (hx : ∀ i ∈ slFp v, SV.hxs (k.flatMap d.enc) ≤ i) (hv : Own d H v l) (hy : LiesD d (Hm H) y k) {bytes : Nat} (hb : 2 * (l.length + k.length) * bytes ≤ two48) (hb' : l.length + k.length ≤ two48) (B : Nat) (hm : ∀ i ∈ slFp v, B ≤ i) :
    ∃ v' H', (∀ z : List SV, z.length = d.sz → ∀ aw, awF v aw = true → ∀ Y : Mem, Y.heap = H → Y.hb ≤ B → appV d.sz bytes z aw v y Y = some (v', Y.hp H')) ∧ Own d H' v' (l ++ k) ∧ Keep (slFp v) H H' ∧ (∀ i ∈ slFp v', i ∈ slFp v ∨ H.length ≤ i) ∧ H'.length ≤ H.length + 1 := by
  have hyl : ∀ Y : Mem, Y.heap = H → Lies Y d.sz y k.length (k.flatMap d.enc) := fun Y hY => Lies.sub (m := Hm H) hy (fun _ _ _ h => by subst hY; exact h)
  have hvl : ∀ Y : Mem, Y.heap = H → Lies Y d.sz v l.length (l.flatMap d.enc) := fun Y hY => Lies.sub (m := Hm H) (hv.lies hd) (fun _ _ _ h => by subst hY; exact h)
  by_cases hk : k = []
  · subst hk
    refine ⟨v, H, fun z _ aw _ Y hY _ => by rw [app_none (hvl Y hY) (hyl Y hY), ← hY]; rfl, by simpa using hv, Keep.refl _ _, fun i hi => .inl hi, Nat.le_succ _⟩
  · have hn : ¬ k.length = 0 := by simpa using hk
    have key : ∀ z : List SV, z.length = d.sz → ∀ aw (Y : Mem), Y.heap = H → (v = .nils ∨ v = .emp ∨ ∃ b off c z', v = .sl b off l.length (some c) z' ∧ c < l.length + k.length) →
        appV d.sz bytes z aw v y Y = some (.sl (.hp H.length 0) 0 (l.length + k.length) none d.sz, Y.hp (H ++ [(0, .cells true (l.flatMap d.enc ++ k.flatMap d.enc))])) := by
      intro z hz aw Y hY hh
      have g1 := (hvl Y hY).lenS
      have g2 := (hvl Y hY).elems
      have hyq := hyl Y hY
      subst hY
      rcases hv with ⟨rfl, rfl⟩ | ⟨rfl, rfl⟩ | ⟨n, w, off, cap, c, rfl, h1, h2, h3⟩
      · simp only [appV, g1, hyq.lenv, hyq.elems, Option.bind_some, if_neg hn]
        rw [if_pos ⟨hz, hp, hok2, hb', hb⟩, new_hp]
        simp only [Option.map_some, List.length_nil, Nat.zero_add, List.flatMap_nil, List.nil_append]
        rfl
      · simp only [appV, g1, hyq.lenv, hyq.elems, Option.bind_some, if_neg hn]
        rw [if_pos ⟨hz, hp, hok2, hb', hb⟩, new_hp]
        simp only [Option.map_some, List.length_nil, Nat.zero_add, List.flatMap_nil, List.nil_append]
        rfl
      · rcases hh with h | h | ⟨b, off', c', z', h, hc⟩
        · cases h
        · cases h
        · cases h
          simp only [appV, g1, hyq.lenv, hyq.elems, Option.bind_some, if_neg hn]
          rw [if_pos ⟨hz, hp, hok2, hb', hb⟩, g2]
          simp only [Option.bind_some]
          rw [if_pos ⟨hok, trivial⟩, if_pos (by simp [noRoom]; omega), new_hp]
          rfl
    have hnew : Own d (H ++ [(0, .cells true (l.flatMap d.enc ++ k.flatMap d.enc))]) (.sl (.hp H.length 0) 0 (l.length + k.length) none d.sz) (l ++ k) := by
      have := own_new hd H (l ++ k) none
      rw [List.flatMap_append, List.length_append] at this
      exact this
    rcases hv with ⟨rfl, rfl⟩ | ⟨rfl, rfl⟩ | ⟨n, w, off, cap, c, rfl, h1, h2, h3⟩
    · exact ⟨_, _, fun z hz aw _ Y hY _ => key z hz aw Y hY (.inl rfl), hnew, Keep.app _ _ _, fun i hi => .inr (by simp [slFp] at hi; omega), by simp⟩
    · exact ⟨_, _, fun z hz aw _ Y hY _ => key z hz aw Y hY (.inr (.inl rfl)), hnew, Keep.app _ _ _, fun i hi => .inr (by simp [slFp] at hi; omega), by simp⟩
    · by_cases hc : ∃ c', cap = some c' ∧ c' < l.length + k.length
      · obtain ⟨c', rfl, hc⟩ := hc
        exact ⟨_, _, fun z hz aw _ Y hY _ => key z hz aw Y hY (.inr (.inr ⟨_, _, _, _, rfl, hc⟩)), hnew, Keep.app _ _ _, fun i hi => .inr (by simp [slFp] at hi; omega), by simp⟩
      · have hnr : noRoom cap (l.length + k.length) = false := by
          cases cap with
          | none => rfl
          | some c' => simp only [noRoom, decide_eq_false_iff_not]; intro h; exact hc ⟨c', rfl, h⟩
        refine ⟨.sl (.hp n (w + 1)) 0 (l.length + k.length) none d.sz, H.set n (w + 1, .cells true (l.flatMap d.enc ++ k.flatMap d.enc)), ?_, ?_, Keep.set (by simp [slFp]) _ _, fun i hi => .inl (by simpa [slFp] using hi), by simp⟩
        · intro z hz aw haw Y hY hYb
          have g1 := (hvl Y hY).lenS
          have g2 := (hvl Y hY).elems
          have hyq := hyl Y hY
          simp only [appV, g1, hyq.lenv, hyq.elems, Option.bind_some, if_neg hn]
          rw [if_pos ⟨hz, hp, hok2, hb', hb⟩, g2]
          simp only [Option.bind_some]
          rw [if_pos ⟨hok, trivial⟩, hnr]
          have h4 : Y.get (.hp n w) = some (.cells true c) := by subst hY; exact h1
          simp only [h4, Bool.false_eq_true, if_false]
          have h5 : Y.may (.hp n w) = true := decide_eq_true (by have := hm n (by simp [slFp]); omega)
          rw [if_pos ⟨h5, haw⟩, ← hY]
          have h6 : SV.hxs (k.flatMap d.enc) ≤ n := hx n (by simp [slFp])
          simp only [Mem.note, h6, if_true]
          rfl
        · have e1 : (l ++ k).flatMap d.enc = l.flatMap d.enc ++ k.flatMap d.enc := List.flatMap_append
          refine .inr (.inr ⟨n, w + 1, 0, none, _, by rw [List.length_append], by rw [hget_set_eq (hget_lt h1), if_pos rfl], ?_, ?_⟩)
          · rw [← e1, flat_len hd]; omega
          · rw [← e1, List.drop_zero, ← flat_len hd, List.take_length]
end
theorem cell_hxs (l : List (Int × Int)) : SV.hxs (l.flatMap cellF.enc) = 0 := by induction l with | nil => rfl | cons a l ih => simp only [List.flatMap_cons]; exact ih
theorem r_Clone_cell {X : Mem} {v : SV} {l : List (Int × Int)} (hp : LiesD cellF (Hm X.heap) v l) (hb : 2 * l.length * 16 ≤ two48) (hw : X.Wf) (hhb : X.hb ≤ X.hl) :
    ∃ v' H', RF tb f_slices_Clone_api_Cell_api_Cell [v] X = some (v', X.hp H') ∧ Own cellF H' v' l ∧ Keep [] X.heap H' ∧ (∀ i ∈ slFp v', X.heap.length ≤ i) := by
  rw [RF_go t_slices_Clone_api_Cell_api_Cell _ _ rfl, push_hp]
  generalize hH : X.heap = H at *
  have hHl : X.hl = H.length := by rw [← hH]; rfl
  have own0 : Own cellF (H ++ [(0, .cells true [])]) (.sl (.hp H.length 0) 0 0 (some 0) 2) [] := own_new cellF_even H [] (some 0)
  have hp' : LiesD cellF (Hm (H ++ [(0, .cells true [])])) v l := hp.keep (Keep.app [] _ _) (by simp)
  obtain ⟨v', H', ha, o1, o2, o3, o5⟩ := app_ownP cellF_even (by decide) rfl (cellF_ok _) (fun _ _ => by rw [cell_hxs]; omega) own0 hp' (bytes := 16) (by simpa using hb) (by simp only [two48] at *; simp; omega) H.length (fun i hi => by simp [slFp] at hi; omega)
  have ha' : ∀ f e, appV 2 16 [.int .i64 0, .int .i64 0] (fun _ => true) (.sl (.hp H.length 0) 0 0 (some 0) 2) v ((X.hp (H ++ [(0, .cells true [])])).fr f e) = some (v', (X.hp H').fr f e) := fun f e => ha _ rfl (fun _ => true) rfl _ rfl (by show X.hb ≤ H.length; omega)
  have s1 := o1.isSl cellF_even
  have o3' : ∀ i ∈ slFp v', H.length ≤ i := fun i hi => by
    rcases o3 i hi with h | h
    · simp [slFp] at h; omega
    · simp at h; omega
  have fin : Own cellF (if v'.hx ≤ X.hl then H'.take X.hl else H') v' l ∧ Keep [] H (if v'.hx ≤ X.hl then H'.take X.hl else H') := by
    refine ⟨(by simpa using o1 : Own cellF H' v' l).congr fun i hi => fin_keep1 (.inr ?_), ?_⟩
    · have := o3' i hi
      rw [hx_fp hi]
      omega
    · have := ((Keep.app [] H [(0, .cells true [])]).trans' o2 (by simp [slFp]))
      rw [← hH] at this ⊢
      exact this.back1
  rcases hp.2 with ⟨rfl, h0⟩ | ⟨rfl, h0⟩ | ⟨k, w, off, cap, c, rw, rfl, _⟩
  · simp (maxDischargeDepth := 8) only [go_sem, s_slices_Clone_api_Cell_api_Cell, hw, hH]
    have : l = [] := List.eq_nil_of_length_eq_zero h0
    subst this
    exact ⟨.nils, H, by rw [← hH]; rfl, Own.nil _, Keep.refl _ _, by simp [slFp]⟩
  · simp (maxDischargeDepth := 8) only [go_sem, s_slices_Clone_api_Cell_api_Cell, hw, ha', s1.c, s1.l]
    exact ⟨_, _, rfl, fin.1, fin.2, o3'⟩
  · simp (maxDischargeDepth := 8) only [go_sem, s_slices_Clone_api_Cell_api_Cell, hw, ha', s1.c, s1.l]
    exact ⟨_, _, rfl, fin.1, fin.2, o3'⟩
theorem clone_of {X : Mem} {v : SV} {l : List (Int × Int)} {z : Option (SV × Mem)} (hz : RF tb f_slices_Clone_api_Cell_api_Cell [v] X = z) (hp : LiesD cellF (Hm X.heap) v l) (hb : 2 * l.length * 16 ≤ two48) (hw : X.Wf) (hhb : X.hb ≤ X.hl) :
    ∃ v' H', z = some (v', X.hp H') ∧ Own cellF H' v' l ∧ Keep [] X.heap H' ∧ (∀ i ∈ slFp v', X.heap.length ≤ i) := by
  subst hz; exact r_Clone_cell hp hb hw hhb
theorem own_back {α : Type} {d : Fl α} {X : Mem} {H' : Hp} {v : SV} {l : List α} (o : Own d H' v l) (hf : ∀ i ∈ slFp v, X.heap.length ≤ i) (hx : v.hx = match slFp v with | [] => 0 | i :: _ => i + 1) (k : Keep [] X.heap H') :
    Own d (if v.hx ≤ X.hl then H'.take X.hl else H') v l ∧ Keep [] X.heap (if v.hx ≤ X.hl then H'.take X.hl else H') := by
  refine ⟨o.congr fun i hi => fin_keep1 (.inr ?_), k.back1⟩
  have := hf i hi
  rw [hx_fp hi]
  show X.heap.length < i + 1
  omega
theorem r_own {X : Mem} {v : SV} {l : List (Int × Int)} (hp : LiesD cellF (Hm X.heap) v l) (hb : 2 * l.length * 16 ≤ two48) (hw : X.Wf) (hhb : X.hb ≤ X.hl) (o : Int) :
    ∃ v' H', RF tb f_cache_own [.agg [.int .i64 o, v]] X = some (.agg [.int .i64 o, v'], X.hp H') ∧ Own cellF H' v' l ∧ Keep [] X.heap H' ∧ (∀ i ∈ slFp v', X.heap.length ≤ i) := by
  rw [RF_go t_cache_own _ _ rfl, push_hp]
  have sv := hp.isSl
  simp (maxDischargeDepth := 8) only [go_sem, s_cache_own, hw, sv.l, sv.c, sv.k, sv.o]
  generalize hz : RF tb f_slices_Clone_api_Cell_api_Cell _ _ = z
  obtain ⟨v', H1, rfl, o1, k1, f1⟩ := clone_of hz hp hb (by simp (maxDischargeDepth := 8) only [go_sem, hw]) (by simp (maxDischargeDepth := 8) only [go_sem]; exact Nat.le_refl _)
  change Keep [] X.heap H1 at k1
  change ∀ i ∈ slFp v', X.heap.length ≤ i at f1
  have s1 := o1.isSl cellF_even
  obtain ⟨o2, k2⟩ := own_back o1 f1 s1.xs k1
  simp (maxDischargeDepth := 8) only [go_sem, hw, s1.l, s1.c, s1.k, s1.o]
  exact ⟨_, _, rfl, o2, k2, f1⟩
theorem own_of {X : Mem} {v : SV} {l : List (Int × Int)} {o : Int} {z : Option (SV × Mem)} (hz : RF tb f_cache_own [.agg [.int .i64 o, v]] X = z) (hp : LiesD cellF (Hm X.heap) v l) (hb : 2 * l.length * 16 ≤ two48) (hw : X.Wf) (hhb : X.hb ≤ X.hl) :
    ∃ v' H', z = some (.agg [.int .i64 o, v'], X.hp H') ∧ Own cellF H' v' l ∧ Keep [] X.heap H' ∧ (∀ i ∈ slFp v', X.heap.length ≤ i) := by
  subst hz; exact r_own hp hb hw hhb o
abbrev Wy := Int × List (Int × Int)
structure CaAt (H : Hp) (kc km : Nat) (R ep : Int) (M : List (Ky × Wv)) (ov : SV) (O : List Ky) : Prop where
  hd : hget H kc 0 = some (.cells true [.int .i64 R, .int .i64 ep, .map (.hp km 0), ov])
  mp : hget H km 0 = some (.map (alV kyV wvV M))
  od : Own kyF H ov O
structure WayOk (H : Hp) (S : List Nat) (w : Wv) (p : Wy) : Prop where
  o : w.1 = p.1
  l : LiesD cellF (Hm H) w.2 p.2
  f : ∀ j ∈ slFp w.2, j ∉ S
  b : 2 * p.2.length * 16 ≤ two48
theorem WayOk.keep {H H' : Hp} {S T : List Nat} {w : Wv} {p : Wy} (h : WayOk H S w p) (k : Keep S H H') (hT : ∀ j ∈ T, j < H.length → j ∈ S) : WayOk H' T w p :=
  ⟨h.o, h.l.keep k h.f, fun j hj hc => h.f j hj (hT j hc (h.l.fp j hj)), h.b⟩
def MapR (H : Hp) (S : List Nat) (M : List (Ky × Wv)) (L : List (Ky × Wy)) : Prop := ∀ k, match alGet k M, alGet k L with
  | some w, some p => WayOk H S w p
  | none, none => True
  | _, _ => False
theorem MapR.keep {H H' : Hp} {S T : List Nat} {M : List (Ky × Wv)} {L : List (Ky × Wy)} (h : MapR H S M L) (k : Keep S H H') (hT : ∀ j ∈ T, j < H.length → j ∈ S) : MapR H' T M L := fun q => by
  have := h q
  revert this
  cases alGet q M <;> cases alGet q L <;> intro this
  · trivial
  · exact this
  · exact this
  · exact WayOk.keep this k hT
def getP (ep : Int) (L : List (Ky × Wy)) (k : Ky) (e : Int) : Option Wy := if e = ep then alGet k L else none
theorem r_cache_New_no (X : Mem) (hw : X.Wf) (n : Int) (h : ¬ (1 ≤ n ∧ n ≤ 256)) : RF tb f_cache_New [.int .i64 n] X = some (.tup [.nilp, .int .i64 1], X) := by
  rw [RF_go t_cache_New _ _ rfl]
  by_cases h1 : n < 1
  · simp (maxDischargeDepth := 8) only [go_sem, s_cache_New, hw, show decide (n < 1) = true from decide_eq_true h1]
  · simp (maxDischargeDepth := 8) only [go_sem, s_cache_New, hw, show decide (n < 1) = false from decide_eq_false h1, show decide (n > 256) = true from decide_eq_true (by omega)]
theorem r_cache_NewP (X : Mem) (hw : X.Wf) (n : Int) (h1 : 1 ≤ n ∧ n ≤ 256) : ∃ H' kc km, RF tb f_cache_New [.int .i64 n] X = some (.tup [.ptr (.hp kc 0) 0, .int .i64 0], X.hp H') ∧ CaAt H' kc km n 0 [] .nils [] ∧ Keep [] X.heap H' ∧ km = X.heap.length ∧ kc = X.heap.length + 1 := by
  rw [RF_go t_cache_New _ _ rfl, push_hp]
  generalize hH : X.heap = H
  have hHl : X.hl = H.length := by rw [← hH]; rfl
  simp (maxDischargeDepth := 8) only [go_sem, s_cache_New, hw, hH, show decide (n < 1) = false from decide_eq_false (by omega), show decide (n > 256) = false from decide_eq_false (by omega)]
  have l1 : (H ++ [((0 : Nat), SBk.map [])]).length = H.length + 1 := by rw [List.length_append]; rfl
  rw [l1, if_neg (by omega)]
  refine ⟨_, _, _, rfl, ⟨?_, ?_, Own.nil _⟩, (show Keep [] H _ from Keep.app _ _ _).trans (Keep.app _ _ _), rfl, rfl⟩
  · rw [← l1]; exact hget_new0 0 _
  · exact (show Keep [] (H ++ [(0, SBk.map [])]) _ from Keep.app _ _ _).get (hget_new0 0 _) (by simp)
theorem r_cache_Len {H : Hp} {kc km : Nat} {R ep : Int} {M : List (Ky × Wv)} {ov : SV} {O : List Ky} (h : CaAt H kc km R ep M ov O) {X : Mem} (hX : HpSub (Hm H) X) (hw : X.Wf) : RF tb f_cache_Cache_Len [.ptr (.hp kc 0) 0] X = some (.int .i64 (O.length : Int), X) := by
  have hld : ∀ {Y : Mem}, HpSub (Hm H) Y → ∀ off n, Y.load (.hp kc 0) off n = partv [.int .i64 R, .int .i64 ep, .map (.hp km 0), ov] off n := fun hY off n => by rw [load_get, hY _ _ _ h.hd]
  have ho := h.od.lies kyF_even
  rw [RF_go t_cache_Cache_Len _ _ rfl]
  simp (maxDischargeDepth := 8) only [go_sem, s_cache_Cache_Len, hw, hX, hld, ho.len]
theorem r_cache_Get {X : Mem} {kc km : Nat} {R ep : Int} {M : List (Ky × Wv)} {ov : SV} {O : List Ky} {L : List (Ky × Wy)} {S : List Nat} (h : CaAt X.heap kc km R ep M ov O) (hr : MapR X.heap S M L) (hw : X.Wf) (hhb : X.hb ≤ X.hl) (k : Ky) (e : Int) :
    ∃ v' H', RF tb f_cache_Cache_Get [.ptr (.hp kc 0) 0, kyV k, .int .i64 e] X = some (.tup [.agg [.int .i64 ((getP ep L k e).getD (0, [])).1, v'], .bool (getP ep L k e).isSome], X.hp H') ∧ Own cellF H' v' ((getP ep L k e).getD (0, [])).2 ∧ Keep [] X.heap H' ∧ (∀ i ∈ slFp v', X.heap.length ≤ i) := by
  have hd := h.hd
  have mp := h.mp
  rw [RF_go t_cache_Cache_Get _ _ rfl, push_hp]
  generalize hH : X.heap = H at *
  have hHl : X.hl = H.length := by rw [← hH]; rfl
  by_cases he : e = ep
  · have hg : getP ep L k e = alGet k L := if_pos he
    have as : assoc (.agg [.int .i64 k.1, .int .i64 k.2.1, .int .i64 k.2.2.1, .int .i64 k.2.2.2.1, .int .i64 k.2.2.2.2.1, .int .i64 k.2.2.2.2.2]) (alV kyV wvV M) = some ((alGet k M).map wvV) := assoc_ky wvV k M
    have hk := hr k
    rw [hg]
    cases hM : alGet k M with
    | none =>
      cases hL : alGet k L with
      | some p => rw [hM, hL] at hk; exact hk.elim
      | none =>
        rw [hM] at as
        simp (maxDischargeDepth := 8) only [go_sem, s_cache_Cache_Get, hw, hH, hd, show (e != ep) = false from by simp [he], mp, as, shut_get, Option.map_none, Option.getD_none, Option.isSome_none]
        generalize hz : RF tb f_cache_own _ _ = z
        obtain ⟨v', H1, rfl, q2, q3, q4⟩ := own_of hz (LiesD.nil cellF _) (by decide) (by simp (maxDischargeDepth := 8) only [go_sem, hw]) (by show X.hb ≤ H.length; omega)
        have s1 := q2.isSl cellF_even
        rw [← hH] at q3 q4
        change Keep [] X.heap H1 at q3
        change ∀ i ∈ slFp v', X.heap.length ≤ i at q4
        obtain ⟨o2, k2⟩ := own_back q2 q4 s1.xs q3
        simp (maxDischargeDepth := 8) only [go_sem, hw, s1.l, s1.c, s1.k, s1.o]
        rw [← hH]
        exact ⟨_, _, rfl, o2, k2, q4⟩
    | some w =>
      cases hL : alGet k L with
      | none => rw [hM, hL] at hk; exact hk.elim
      | some p =>
        rw [hM, hL] at hk
        rw [hM] at as
        obtain ⟨wo, wv⟩ := w
        obtain ⟨po, pl⟩ := p
        have e1 : wo = po := hk.o
        subst e1
        have sw := hk.l.isSl
        simp (maxDischargeDepth := 8) only [go_sem, s_cache_Cache_Get, hw, hH, hd, show (e != ep) = false from by simp [he], mp, as, shut_get, Option.map_some, Option.getD_some, Option.isSome_some, sw.l, sw.c, sw.k, sw.o]
        generalize hz : RF tb f_cache_own _ _ = z
        obtain ⟨v', H1, rfl, q2, q3, q4⟩ := own_of hz hk.l hk.b (by simp (maxDischargeDepth := 8) only [go_sem, hw]) (by show X.hb ≤ H.length; omega)
        have s1 := q2.isSl cellF_even
        rw [← hH] at q3 q4
        change Keep [] X.heap H1 at q3
        change ∀ i ∈ slFp v', X.heap.length ≤ i at q4
        obtain ⟨o2, k2⟩ := own_back q2 q4 s1.xs q3
        simp (maxDischargeDepth := 8) only [go_sem, hw, s1.l, s1.c, s1.k, s1.o]
        rw [← hH]
        exact ⟨_, _, rfl, o2, k2, q4⟩
  · have hg : getP ep L k e = none := if_neg he
    rw [hg]
    simp (maxDischargeDepth := 8) only [go_sem, s_cache_Cache_Get, hw, hH, hd, show (e != ep) = true from by simp [he], Option.getD_none, Option.isSome_none]
    exact ⟨.nils, X.heap, rfl, Own.nil _, by rw [hH]; exact Keep.refl _ _, by simp [slFp]⟩
theorem cget_of {X : Mem} {kc km : Nat} {R ep : Int} {M : List (Ky × Wv)} {ov : SV} {O : List Ky} {L : List (Ky × Wy)} {S : List Nat} {k : Ky} {e : Int} {z : Option (SV × Mem)} (hz : RF tb f_cache_Cache_Get [.ptr (.hp kc 0) 0, kyV k, .int .i64 e] X = z) (h : CaAt X.heap kc km R ep M ov O) (hr : MapR X.heap S M L) (hw : X.Wf) (hhb : X.hb ≤ X.hl) :
    ∃ v' H', z = some (.tup [.agg [.int .i64 ((getP ep L k e).getD (0, [])).1, v'], .bool (getP ep L k e).isSome], X.hp H') ∧ Own cellF H' v' ((getP ep L k e).getD (0, [])).2 ∧ Keep [] X.heap H' ∧ (∀ i ∈ slFp v', X.heap.length ≤ i) := by
  subst hz; exact r_cache_Get h hr hw hhb k e
/-- An order: what comes ahead. -/
structure OrdB {β : Type} (lt : β → β → Bool) : Prop where
  as : ∀ a b, lt a b = true → lt b a = false
  tr : ∀ a b c, lt b a = false → lt c b = false → lt c a = false
section
variable {β : Type} {lt : β → β → Bool}
theorem OrdB.rf (h : OrdB lt) (a : β) : lt a a = false := by
  cases h1 : lt a a with
  | false => rfl
  | true => rw [h.as a a h1] at h1; cases h1
def swp (L : List β) (i j : Nat) : List β := match L[i]?, L[j]? with
  | some a, some b => (L.set i b).set j a
  | _, _ => L
def upH (lt : β → β → Bool) : Nat → Nat → List β → List β
  | 0, _, L => L
  | f + 1, i, L => if i = 0 then L else match L[i]?, L[(i - 1) / 2]? with
    | some a, some b => if lt a b then upH lt f ((i - 1) / 2) (swp L i ((i - 1) / 2)) else L
    | _, _ => L
/-- Which child is looked at. -/
def kidH (lt : β → β → Bool) (L : List β) (i : Nat) : Nat := match L[2 * i + 1]?, L[2 * i + 1 + 1]? with
  | some a, some b => if lt b a then 2 * i + 1 + 1 else 2 * i + 1
  | _, _ => 2 * i + 1
def downH (lt : β → β → Bool) : Nat → Nat → List β → List β
  | 0, _, L => L
  | f + 1, i, L => match L[kidH lt L i]?, L[i]? with
    | some a, some b => if lt a b then downH lt f (kidH lt L i) (swp L i (kidH lt L i)) else L
    | _, _ => L
end
abbrev It := Int × Int × Int
def aheadI (a b : Int) : Bool := decide (a / 4 < b / 4)
def hlt (a b : It) : Bool := aheadI a.1 b.1 || (!aheadI b.1 a.1 && decide (a.2.2 < b.2.2))
/-- Popping: the plain act. -/
def popL (L : List It) : List It := match L[L.length - 1]? with
  | some x => downH hlt L.length 0 ((L.set 0 x).take (L.length - 1))
  | none => []
theorem u1 : upH hlt 1 0 [((9 : Int), (0 : Int), (0 : Int))] = [(9, 0, 0)] := by decide +kernel
theorem u2 : upH hlt 2 1 [((9 : Int), (0 : Int), (0 : Int)), (1, 0, 1)] = [(1, 0, 1), (9, 0, 0)] := by decide +kernel
theorem u3 : popL [((1 : Int), (0 : Int), (1 : Int)), (9, 0, 0)] = [(9, 0, 0)] := by decide +kernel
theorem back_frsD (M M₀ : Mem) (fs : List (List SBk)) (e u : Option Nat) (g : List SBk) : ((M.frs fs e).fr g u).back (M₀.frs fs e) 0 = (M.hp (if escOk M₀.hl u = true then M.heap.take M₀.hl else M.heap)).frs fs (escMin e u) := by
  simp only [Mem.back, Mem.fr, Mem.frs, List.tail_cons, Nat.zero_le, true_and, Mem.hp, Mem.hl]
  rfl
structure QP where
  k : Nat
  tv : SV
  bv : SV
  ev : SV
def QP.fp (p : QP) : List Nat := [p.k] ++ slFp p.tv ++ slFp p.bv ++ slFp p.ev
/-- A reference's world: its buildings by rising numbers. -/
structure RefAt (m : Mem) (p : QP) (W : Wd) (bl : List Bld) : Prop where
  hd : m.get (.hp p.k 0) = some (.cells true [.int .i64 W.w, .int .i64 W.h, p.tv, p.bv, p.ev])
  tl : LiesD byteF m p.tv W.tiles
  bt : LiesD bldF m p.bv bl
  el : LiesD rectF m p.ev W.dirty
  w1 : 1 ≤ W.w ∧ W.w ≤ 128
  h1 : 1 ≤ W.h ∧ W.h ≤ 128
  len : (W.tiles.length : Int) = W.w * W.h
  few : bl.length ≤ 256
section
variable {m X : Mem} {p : QP} {W : Wd} {bl : List Bld} (hV : RefAt m p W bl) (hX : HpSub m X)
include hV hX
theorem RefAt.ld (off : Nat) (n : Option Nat) : X.load (.hp p.k 0) off n = partv [.int .i64 W.w, .int .i64 W.h, p.tv, p.bv, p.ev] off n := by rw [load_get, hX _ _ _ hV.hd]
theorem RefAt.sub : RefAt X p W bl := ⟨hX _ _ _ hV.hd, hV.tl.sub hX, hV.bt.sub hX, hV.el.sub hX, hV.w1, hV.h1, hV.len, hV.few⟩
end
structure RefOwn (H : Hp) (p : QP) (W : Wd) (bl : List Bld) : Prop where
  at_ : RefAt (Hm H) p W bl
  ob : Own bldF H p.bv bl
  oe : Own rectF H p.ev W.dirty
  nd : p.fp.Nodup
theorem WorldOwn.keep {A B : Hp} {p : WP} {W : Wd} {S : List Nat} (h : WorldOwn A p W) (k : Keep S A B) (hs : ∀ i ∈ p.fp, i ∉ S) : WorldOwn B p W := h.congr fun i hi => k.2 i (h.at_.lt i hi) (hs i hi)
theorem RefOwn.lt {H : Hp} {p : QP} {W : Wd} {bl : List Bld} (h : RefOwn H p W bl) : ∀ i ∈ p.fp, i < H.length := by
  intro i hi
  simp only [QP.fp, List.mem_append, List.mem_singleton] at hi
  rcases hi with ((rfl | hi) | hi) | hi
  · exact hget_lt h.at_.hd
  · exact h.at_.tl.fp i hi
  · exact h.at_.bt.fp i hi
  · exact h.at_.el.fp i hi
theorem RefOwn.congr {A B : Hp} {p : QP} {W : Wd} {bl : List Bld} (h : RefOwn A p W bl) (hc : ∀ i ∈ p.fp, B[i]? = A[i]?) : RefOwn B p W bl :=
  ⟨⟨(hget_congr (hc _ (by simp [QP.fp])) 0).trans h.at_.hd, h.at_.tl.congr fun i hi => hc i (by simp [QP.fp, hi]), h.at_.bt.congr fun i hi => hc i (by simp [QP.fp, hi]), h.at_.el.congr fun i hi => hc i (by simp [QP.fp, hi]), h.at_.w1, h.at_.h1, h.at_.len, h.at_.few⟩,
    h.ob.congr fun i hi => hc i (by simp [QP.fp, hi]), h.oe.congr fun i hi => hc i (by simp [QP.fp, hi]), h.nd⟩
theorem RefOwn.keep {A B : Hp} {p : QP} {W : Wd} {bl : List Bld} {S : List Nat} (h : RefOwn A p W bl) (k : Keep S A B) (hs : ∀ i ∈ p.fp, i ∉ S) : RefOwn B p W bl := h.congr fun i hi => k.2 i (h.lt i hi) (hs i hi)
section
variable {X : Mem} {tv bv : SV} {tiles : List Int} {bl : List Bld} (ht : LiesD byteF (Hm X.heap) tv tiles) (hg : ∀ t ∈ tiles, 0 ≤ t ∧ t ≤ 255) (hb : LiesD bldF (Hm X.heap) bv bl) (hbl : bl.length ≤ two48) (hw : X.Wf) (hhb : X.hb ≤ X.hl) (w hh : Int)
include ht hg hb hbl hw hhb
end
def mayS (cl sz : Int) : Bool := decide (cl ≥ 0) && decide (cl < 4) && decide (sz ≥ 1) && decide (sz ≤ 4)
def onB (cl t : Int) : Bool := (decide (cl = 0) && (decide (t = 0) || decide (t = 1))) || (decide (cl = 1) && decide (t = 0)) || (decide (cl = 2) && decide (t = 2)) || (decide (cl = 3) && (decide (t = 0) || decide (t = 2)))
def footR (cl sz x y : Int) : Rc := if mayS cl sz && mayB x y sz sz then (x, y, sz, sz) else (0, 0, 0, 0)
/-- Is a cell free for a class? -/
def Wd.free (W : Wd) (cl a b : Int) : Bool := !(atL W.bl a b).isSome && onB cl (if W.has a b then W.tile a b else 0)
def Wd.stands (W : Wd) (cl sz x y : Int) : Bool :=
  withinB (footR cl sz x y).1 (footR cl sz x y).2.1 (footR cl sz x y).2.2.1 (footR cl sz x y).2.2.2 0 0 W.w W.h &&
    !(cellsP (footR cl sz x y).1 (footR cl sz x y).2.1 (footR cl sz x y).2.2.1 (footR cl sz x y).2.2.2).any fun c => !W.free cl c.1 c.2
def Wd.steps (W : Wd) (cl sz x y d : Int) : Bool := stepOk x y d && W.stands cl sz x y && W.stands cl sz (x + turnX d) (y + turnY d) && (!sideOk x y d || (W.stands cl sz (x + turnX d) y && W.stands cl sz x (y + turnY d)))
def Wd.plain (w h : Int) : Wd := ⟨w, h, List.replicate (w * h).toNat 0, [], []⟩
/-- Rounds, each of which keeps what lies behind, or notes it. -/
inductive RoundsN (F : Tbl) (b : Bk) (P : Mem → Prop) (H : Nat) : List (List SV) → Mem → Option Nat → Mem → Option Nat → Bool → Prop
  | nil (m : Mem) (u : Option Nat) : RoundsN F b P H [] m u m u true
  | stop {x : List SV} {L : List (List SV)} {m m' : Mem} {u d : Option Nat} (h : Yields F b x m m' d false) (hp : P m') (hk : m'.hl = m.hl ∨ ∃ k, d = some k ∧ k < H) : RoundsN F b P H (x :: L) m u m' (escMin u d) false
  | next {x : List SV} {L : List (List SV)} {m m' m'' : Mem} {u d u' : Option Nat} {go : Bool} (h : Yields F b x m m' d true) (hp : P m') (hk : m'.hl = m.hl ∨ ∃ k, d = some k ∧ k < H) (t : RoundsN F b P H L m' (escMin u d) m'' u' go) : RoundsN F b P H (x :: L) m u m'' u' go
theorem RoundsN.weak {F : Tbl} {b : Bk} {P : Mem → Prop} {H H' : Nat} {L : List (List SV)} {m m' : Mem} {u u' : Option Nat} {go : Bool} (h : RoundsN F b P H L m u m' u' go) (hh : H ≤ H') : RoundsN F b P H' L m u m' u' go := by
  induction h with
  | nil => exact .nil _ _
  | stop h hp hk => exact .stop h hp (hk.imp_right fun ⟨k, h1, h2⟩ => ⟨k, h1, by omega⟩)
  | next h hp hk _ ih => exact .next h hp (hk.imp_right fun ⟨k, h1, h2⟩ => ⟨k, h1, by omega⟩) ih
section
variable (n : Nat) (st : Nat → Bool) (R : Nat → Nat → Prop)
end
section
variable {n : Nat} {st : Nat → Bool} {R : Nat → Nat → Prop}
/-- What is linked by some links. -/
inductive Lnk (E : Nat → Nat → Prop) : Nat → Nat → Prop
  | refl (a : Nat) : Lnk E a a
  | step {a b c : Nat} (h : Lnk E a b) (e : E b c ∨ E c b) : Lnk E a c
theorem Lnk.trans {E : Nat → Nat → Prop} {a b c : Nat} (h : Lnk E a b) (k : Lnk E b c) : Lnk E a c := by
  induction k with
  | refl => exact h
  | step _ e ih => exact .step ih e
theorem Lnk.symm {E : Nat → Nat → Prop} {a b : Nat} (h : Lnk E a b) : Lnk E b a := by
  induction h with
  | refl => exact .refl _
  | step _ e ih => exact Lnk.trans (.step (.refl _) e.symm) ih
theorem Lnk.mono {E F : Nat → Nat → Prop} (hEF : ∀ a b, E a b → Lnk F a b) {a b : Nat} (h : Lnk E a b) : Lnk F a b := by
  induction h with
  | refl => exact .refl _
  | step _ e ih =>
    rcases e with e | e
    · exact ih.trans (hEF _ _ e)
    · exact ih.trans (hEF _ _ e).symm
end
def Wd.clr (W : Wd) (cl x y : Int) : Int := if W.stands cl 4 x y then 4 else if W.stands cl 3 x y then 3 else if W.stands cl 2 x y then 2 else if W.stands cl 1 x y then 1 else 0
abbrev iF : Fl Int := Fl.int .i64
abbrev fieldC (p : WP) (W : Wd) (cl : Int) (lv : SV) (ep : Int) : List SV := [.ptr (.hp p.k 0) 0, .int .i64 cl, .int .i64 0, .int .i64 0, .int .i64 W.w, .int .i64 W.h, lv, .int .i64 ep]
structure FieldAt (m : Mem) (k : Nat) (p : WP) (W : Wd) (cl : Int) (lv : SV) (ep : Int) (L : List Int) : Prop where
  hd : m.get (.hp k 0) = some (.cells true (fieldC p W cl lv ep))
  ll : LiesD iF m lv L
  len : L.length = W.w.toNat * W.h.toNat
  w1 : 1 ≤ W.w ∧ W.w ≤ 128
  h1 : 1 ≤ W.h ∧ W.h ≤ 128
theorem FieldAt.ld {m : Mem} {k : Nat} {p : WP} {W : Wd} {cl : Int} {lv : SV} {ep : Int} {L : List Int} (hF : FieldAt m k p W cl lv ep L) {X : Mem} (hX : HpSub m X) (off : Nat) (n : Option Nat) : X.load (.hp k 0) off n = partv (fieldC p W cl lv ep) off n := by rw [load_get, hX _ _ _ hF.hd]
theorem FieldAt.sub {m : Mem} {k : Nat} {p : WP} {W : Wd} {cl : Int} {lv : SV} {ep : Int} {L : List Int} (hF : FieldAt m k p W cl lv ep L) {X : Mem} (hX : HpSub m X) : FieldAt X k p W cl lv ep L := ⟨hX _ _ _ hF.hd, hF.ll.sub hX, hF.len, hF.w1, hF.h1⟩
/-- Known: all cells behind one. -/
def Wd.knows (W : Wd) (cl : Int) (L : List Int) (yn xn : Nat) : Prop := ∀ a b : Nat, a < W.w.toNat → b < W.h.toNat → (yn + 1 ≤ b ∨ (b = yn ∧ xn ≤ a)) → L[b * W.w.toNat + a]? = some (W.clr cl a b)
abbrev Cl := Int × Int
def mvC (c : Cl) (d : Int) : Cl := (c.1 + turnX d, c.2 + turnY d)
section
variable (ok : Cl → Int → Bool)
/-- What some path costs. -/
inductive Pth (s : Cl) : Cl → Int → Prop
  | nil : Pth s s 0
  | step {c : Cl} {v d : Int} (h : Pth s c v) (hk : ok c d = true) : Pth s (mvC c d) (v + costP d)
/-- The least that a path costs. -/
def Mn (s c : Cl) (v : Int) : Prop := Pth ok s c v ∧ ∀ v', Pth ok s c v' → v ≤ v'
end
section
variable {ok : Cl → Int → Bool} {s : Cl}
/-- What holds of a search, however far it has come: g: costs, dn: what was looked at, R: which steps were taken from there, E: what is still to be looked at. -/
structure SInv (ok : Cl → Int → Bool) (s : Cl) (g : Cl → Option Int) (dn : Cl → Bool) (R : Cl → Int → Prop) (E : Cl → Int → Prop) : Prop where
  p : ∀ x v, g x = some v → Pth ok s x v
  s0 : g s = some 0
  rd : ∀ x d, R x d → dn x = true
  r : ∀ x d, R x d → ok x d = true → ∃ v v', g x = some v ∧ g (mvC x d) = some v' ∧ v' ≤ v + costP d
  dm : ∀ x, dn x = true → ∃ v, g x = some v ∧ ∀ v', Pth ok s x v' → v ≤ v'
  u : ∀ x v, g x = some v → dn x = false → E x v
  e : ∀ x v, E x v → ∃ v', g x = some v' ∧ v' ≤ v ∧ Pth ok s x v
variable {g : Cl → Option Int} {dn : Cl → Bool} {R : Cl → Int → Prop} {E : Cl → Int → Prop}
/-- Along any path: either it was looked at, or something ahead of it waits. -/
theorem SInv.reach (I : SInv ok s g dn R E) (hR : ∀ x d, dn x = true → ok x d = true → R x d) {h : Cl → Int} (hh : ∀ c d, ok c d = true → h c ≤ costP d + h (mvC c d)) {x : Cl} {v : Int} (hp : Pth ok s x v) :
    (dn x = true ∧ ∃ v', g x = some v' ∧ v' ≤ v) ∨ ∃ y w, g y = some w ∧ dn y = false ∧ w + h y ≤ v + h x := by
  induction hp with
  | nil =>
    cases hd : dn s with
    | true => exact .inl ⟨rfl, 0, I.s0, Int.le_refl _⟩
    | false => exact .inr ⟨s, 0, I.s0, hd, Int.le_refl _⟩
  | @step c v d hp hk ih =>
    rcases ih with ⟨h1, v', h2, h3⟩ | ⟨y, w, h1, h2, h3⟩
    · obtain ⟨a, b, q1, q2, q3⟩ := I.r c d (hR c d h1 hk) hk
      rw [h2] at q1; cases q1
      cases hd : dn (mvC c d) with
      | true => exact .inl ⟨rfl, b, q2, by omega⟩
      | false => exact .inr ⟨_, b, q2, hd, by omega⟩
    · exact .inr ⟨y, w, h1, h2, by have := hh c d hk; omega⟩
/-- What comes first, and was not looked at, is told right. -/
theorem SInv.first (I : SInv ok s g dn R E) (hR : ∀ x d, dn x = true → ok x d = true → R x d) {h : Cl → Int} (hh : ∀ c d, ok c d = true → h c ≤ costP d + h (mvC c d)) {c : Cl} {v : Int} (hE : E c v) (hc : dn c = false) (hmin : ∀ y w, E y w → v + h c ≤ w + h y) :
    g c = some v ∧ ∀ v', Pth ok s c v' → v ≤ v' := by
  have hm : ∀ v', Pth ok s c v' → v ≤ v' := by
    intro v' hp
    rcases I.reach hR hh hp with ⟨h1, _⟩ | ⟨y, w, h1, h2, h3⟩
    · rw [hc] at h1; cases h1
    · have := hmin y w (I.u y w h1 h2)
      omega
  obtain ⟨v', h1, h2, _⟩ := I.e c v hE
  have := hm v' (I.p c v' h1)
  obtain rfl : v' = v := by omega
  exact ⟨h1, hm⟩
theorem SInv.skip (I : SInv ok s g dn R E) {E' : Cl → Int → Prop} {c : Cl} (hc : dn c = true) (h1 : ∀ x v, E' x v → E x v) (h2 : ∀ x v, E x v → x ≠ c → E' x v) : SInv ok s g dn R E' :=
  { I with u := fun x v hg hd => h2 x v (I.u x v hg hd) (fun e => by subst e; rw [hc] at hd; cases hd), e := fun x v h => I.e x v (h1 x v h) }
theorem SInv.take (I : SInv ok s g dn R E) {E' : Cl → Int → Prop} {c : Cl} {v : Int} (hc : g c = some v ∧ ∀ v', Pth ok s c v' → v ≤ v') (h1 : ∀ x v, E' x v → E x v) (h2 : ∀ x v, E x v → x ≠ c → E' x v) : SInv ok s g (fun x => if x = c then true else dn x) R E' :=
  { I with
    rd := fun x d h => by have := I.rd x d h; split <;> first | rfl | exact this
    dm := fun x h => by
      try dsimp only at h
      split at h
      · rename_i e; subst e; exact ⟨v, hc⟩
      · exact I.dm x h
    u := fun x w hg hd => by
      try dsimp only at hd
      split at hd
      · cases hd
      · rename_i hne; exact h2 x w (I.u x w hg hd) hne
    e := fun x v h => I.e x v (h1 x v h) }
/-- A search that is at its end, as far as B minds: what lies within B was looked at. -/
structure SFin (ok : Cl → Int → Bool) (s : Cl) (g : Cl → Option Int) (dn : Cl → Bool) (h : Cl → Int) (B : Option Int) : Prop where
  p : ∀ x v, g x = some v → Pth ok s x v
  dm : ∀ x, dn x = true → ∃ v, g x = some v ∧ Mn ok s x v
  all : ∀ x v, Pth ok s x v → (∀ b, B = some b → v + h x ≤ b) → dn x = true
theorem SInv.fin (I : SInv ok s g dn R E) (hR : ∀ x d, dn x = true → ok x d = true → R x d) {h : Cl → Int} (hh : ∀ c d, ok c d = true → h c ≤ costP d + h (mvC c d)) {B : Option Int} (hB : ∀ x v, E x v → ∃ b, B = some b ∧ b < v + h x) : SFin ok s g dn h B where
  p := I.p
  dm x hx := by obtain ⟨v, h1, h2⟩ := I.dm x hx; exact ⟨v, h1, I.p x v h1, h2⟩
  all x v hp hb := by
    rcases I.reach hR hh hp with ⟨h1, _⟩ | ⟨y, w, h1, h2, h3⟩
    · exact h1
    · obtain ⟨b, hb1, hb2⟩ := hB y w (I.u y w h1 h2)
      have := hb b hb1
      omega
end
section
variable (ok : Cl → Int → Bool) (s : Cl)
end
section
variable {ok : Cl → Int → Bool} {s : Cl}
theorem Pth.trans {a b c : Cl} {v w : Int} (h : Pth ok a b v) (k : Pth ok b c w) : Pth ok a c (v + w) := by
  induction k with
  | nil => simpa using h
  | step k hk ih => rw [← Int.add_assoc]; exact .step ih hk
end
/-- A rectangle's cells. -/
structure Bx where
  x : Int
  y : Int
  w : Int
  h : Int
def Bx.has (r : Bx) (c : Cl) : Bool := decide (r.x ≤ c.1) && decide (c.1 < r.x + r.w) && (decide (r.y ≤ c.2) && decide (c.2 < r.y + r.h))
def Bx.at (r : Bx) (i : Nat) : Cl := (r.x + ((i % r.w.toNat : Nat) : Int), r.y + ((i / r.w.toNat : Nat) : Int))
def Bx.n (r : Bx) : Nat := r.w.toNat * r.h.toNat
section
variable (ok : Cl → Int → Bool) (s : Cl) (r : Bx)
end
section
variable {ok : Cl → Int → Bool} {s : Cl} {r : Bx}
end
/-- The map knows the numbers. -/
def MNum (M : List (Int × Int)) (num : Nat → Nat) : Prop := ∀ r : Nat, alGet (r : Int) M = if num r = 0 then none else some (num r : Int)
theorem MNum.set {M : List (Int × Int)} {num : Nat → Nat} (h : MNum M num) (r v : Nat) (hv : v ≠ 0) : MNum (alSet (r : Int) (v : Int) M) (fun q => if q = r then v else num q) := by
  intro q
  rw [alGet_set]
  by_cases e : q = r
  · subst e
    simp only [if_true]
    rw [if_neg hv]
  · simp only [if_neg e]
    rw [if_neg (by omega)]; exact h q
theorem own_fp7 {α : Type} {d : Fl α} {H : Hp} {v : SV} {l : List α} (h : Own d H v l) (hl : l ≠ []) : ∃ j, j ∈ slFp v := by
  rcases h with ⟨_, rfl⟩ | ⟨_, rfl⟩ | ⟨n, w, off, cap, c, rfl, _⟩
  · exact absurd rfl hl
  · exact absurd rfl hl
  · exact ⟨n, by simp [slFp]⟩
theorem aw_of {α : Type} {d : Fl α} {H : Hp} {v : SV} {l : List α} (h : Own d H v l) {aw : Bk → Bool} (ha : ∀ j ∈ slFp v, ∀ w, aw (.hp j w) = true) : awF v aw = true := by
  rcases h with ⟨rfl, _⟩ | ⟨rfl, _⟩ | ⟨n, w, off, cap, c, rfl, _⟩
  · rfl
  · rfl
  · exact ha n (by simp [slFp]) w
noncomputable abbrev putT (X : Mem) (kc km : Nat) (M : List (Ky × Wv)) (k : Ky) (o : Int) (v : SV) (H : Hp) : Option (SV × Mem) :=
  fin [.t 8] X (KV tb [.kp [0, 5, 7, 10], .seq s_cache_Cache_Put_p9, .kp [0, 5, 7], .seq ((SCode.kp [] s_cache_Cache_Put_p10).seq ((SCode.region false [⟨some 8, .mv (.v (.int .i64 0)), none, false⟩]).seq .ret))] true
    (Option.map (fun r => (SV.tup [r.getD (.agg [.int .i64 0, .nils]), .bool r.isSome], (X.hp H).fr [.cells true (kyC k), .cells true [.int .i64 o, v]] none)) (assoc (kyV k) (alV kyV wvV M)))
    (some 43)
    [⟨some 37, .mv (.t 43), none, false⟩, ⟨some 44, .ext (.t 37) 0, none, false⟩, ⟨some 45, .ext (.t 37) 1, none, true⟩, ⟨some 9, .alloc true [.int .i64 0, .nils], none, true⟩, ⟨none, .store 2 [] (.t 9) (.t 44), none, false⟩, ⟨some 10, .mv (.t 45), none, false⟩]
    [(42, kyV k), (41, .map (.hp km 0)), (40, .ptr (.hp kc 0) 2), (39, .ptr (.hp kc 0) 0), (38, .ptr (.hp kc 0) 0), (0, .ptr (.hp kc 0) 0), (5, .ptr (.st X.dep 0) 0), (7, .ptr (.st X.dep 1) 0)])
/-- What Put makes of what is kept. -/
def putL (R : Int) (L : List (Ky × Wy)) (k : Ky) (w : Wy) : List (Ky × Wy) := if (alGet k L).isSome then alSet k w L else (if (L.length : Int) = R then L.drop 1 else L) ++ [(k, w)]
/-- A cache and what it keeps. -/
structure CaP (B : Nat) (H : Hp) (kc km : Nat) (R ep : Int) (M : List (Ky × Wv)) (ov : SV) (L : List (Ky × Wy)) : Prop where
  at_ : CaAt H kc km R ep M ov (L.map Prod.fst)
  nd : (M.map Prod.fst).Nodup
  nl : (L.map Prod.fst).Nodup
  lt : km < kc
  of : ∀ j ∈ slFp ov, kc < j
  mr : MapR H (km :: kc :: slFp ov) M L
  le : (L.length : Int) ≤ R
  ab : ∀ q w, alGet q M = some w → ∀ j ∈ slFp w.2, B ≤ j
  ob : ∀ j ∈ slFp ov, B ≤ j
  hB : B ≤ H.length
theorem dropV_fp' (z n : Nat) (v : SV) : slFp (dropV z n v) = slFp v := by
  cases v with
  | sl b off len cap q => cases b <;> rfl
  | _ => rfl
theorem own_drop {α : Type} {d : Fl α} (hd : d.Even) {H : Hp} {v : SV} {l : List α} (h : Own d H v l) {lo : Nat} (hl : lo ≤ l.length) : Own d H (dropV d.sz lo v) (l.drop lo) := by
  rcases h with ⟨rfl, rfl⟩ | ⟨rfl, rfl⟩ | ⟨n, w, off, cap, c, rfl, h1, h2, h3⟩
  · exact .inl ⟨rfl, by simp⟩
  · exact .inr (.inl ⟨rfl, by simp⟩)
  · have hm : lo * d.sz ≤ l.length * d.sz := Nat.mul_le_mul_right _ hl
    have e : (l.length - lo) * d.sz = l.length * d.sz - lo * d.sz := Nat.sub_mul _ _ _
    refine .inr (.inr ⟨n, w, off + lo * d.sz, _, c, by rw [List.length_drop]; rfl, h1, ?_, ?_⟩)
    · rw [List.length_drop, e]; omega
    · rw [List.length_drop, e, ← flat_drop hd, ← h3, List.drop_take, List.drop_drop]
theorem cap_mk {B : Nat} {H Hf : Hp} {kc km : Nat} {R ep : Int} {M1 : List (Ky × Wv)} {L1 Lf : List (Ky × Wy)} {ov ovf v' : SV} {k : Ky} {o : Int} {l : List (Int × Int)} (lt : km < kc)
    (hd : hget Hf kc 0 = some (.cells true [.int .i64 R, .int .i64 ep, .map (.hp km 0), ovf])) (mp : hget Hf km 0 = some (.map (alV kyV wvV (alSet k (o, v') M1)))) (od : Own kyF Hf ovf (Lf.map Prod.fst)) (kk : Keep (km :: kc :: slFp ov) H Hf) (of0 : ∀ j ∈ slFp ov, kc < j) (of : ∀ j ∈ slFp ovf, j ∈ slFp ov ∨ H.length ≤ j) (hk : kc < H.length)
    (lv : LiesD cellF (Hm Hf) v' l) (fv : ∀ j ∈ slFp v', j ∉ km :: kc :: slFp ovf) (hb : 2 * l.length * 16 ≤ two48) (mr : MapR H (km :: kc :: slFp ov) M1 L1) (nd : (M1.map Prod.fst).Nodup) (nl : (Lf.map Prod.fst).Nodup) (le : (Lf.length : Int) ≤ R) (hLf : ∀ q, alGet q Lf = if q = k then some (o, l) else alGet q L1) (ab : ∀ q w, alGet q M1 = some w → ∀ j ∈ slFp w.2, B ≤ j) (ob : ∀ j ∈ slFp ov, B ≤ j) (hB : B ≤ H.length) (fr : ∀ j ∈ slFp v', H.length ≤ j) :
    CaP B Hf kc km R ep (alSet k (o, v') M1) ovf Lf := by
  refine ⟨⟨hd, mp, od⟩, alSet_keys _ _ _ nd, nl, lt, fun j hj => ?_, fun q => ?_, le, fun q w hq j hj => ?_, fun j hj => ?_, Nat.le_trans hB kk.1⟩
  · rcases of j hj with h | h
    · exact of0 j h
    · omega
  · rw [alGet_set, hLf q]
    by_cases e : q = k
    · rw [if_pos e, if_pos e]; exact ⟨rfl, lv, fv, hb⟩
    · rw [if_neg e, if_neg e]
      exact (mr.keep kk (T := km :: kc :: slFp ovf) (fun j hj hl => by
        simp only [List.mem_cons] at hj ⊢
        rcases hj with h | h | h
        · exact .inl h
        · exact .inr (.inl h)
        · rcases of j h with h2 | h2
          · exact .inr (.inr h2)
          · omega)) q
  · rw [alGet_set] at hq
    by_cases e : q = k
    · rw [if_pos e] at hq
      obtain rfl := Option.some.inj hq
      have := fr j hj; omega
    · rw [if_neg e] at hq; exact ab q w hq j hj
  · rcases of j hj with h | h
    · exact ob j h
    · omega
noncomputable abbrev putA (X : Mem) (kc : Nat) (k : Ky) (o : Int) (v ov : SV) (Hx : Hp) (e : Option Nat) : Option (SV × Mem) :=
  fin [.t 8] X (KV tb [.kp [0, 5, 7], .seq ((SCode.kp [] s_cache_Cache_Put_p10).seq ((SCode.region false [⟨some 8, .mv (.v (.int .i64 0)), none, false⟩]).seq .ret))] true
    (appV 6 48 [.int .i64 0, .int .i64 0, .int .i64 0, .int .i64 0, .int .i64 0, .int .i64 0] (fun _ => true) ov (.sl (.hp Hx.length 0) 0 1 (some 1) 6) ((X.hp (Hx ++ [(0, .cells true (kyC k))])).fr [.cells true (kyC k), .cells true [.int .i64 o, v], .cells true [.int .i64 0, .nils]] e))
    (some 83)
    [⟨some 84, .nilck (.t 76), none, false⟩, ⟨some 85, .faddr 3 (.t 84), none, false⟩, ⟨none, .store 1 [] (.t 85) (.t 83), none, false⟩]
    [(82, .sl (.hp Hx.length 0) 0 1 (some 1) 6), (81, kyV k), (80, ov), (79, .ptr (.hp kc 0) 3), (78, .ptr (.hp kc 0) 0), (77, .ptr (.hp kc 0) 0), (76, .ptr (.hp kc 0) 0), (0, .ptr (.hp kc 0) 0), (5, .ptr (.st X.dep 0) 0), (7, .ptr (.st X.dep 1) 0)])
theorem alGet_app {β : Type} (q k : Ky) (x : β) : ∀ L : List (Ky × β), alGet q (L ++ [(k, x)]) = match alGet q L with | some y => some y | none => if q = k then some x else none := by
  intro L
  induction L with
  | nil => simp only [List.nil_append, alGet]
  | cons y r ih =>
    obtain ⟨a, b⟩ := y
    simp only [List.cons_append, alGet]
    by_cases e : q = a
    · simp only [if_pos e]
    · simp only [if_neg e]; exact ih
theorem kyGet_none {β : Type} {k : Ky} : ∀ {L : List (Ky × β)}, alGet k L = none → k ∉ L.map Prod.fst := by
  intro L
  induction L with
  | nil => intro _; simp
  | cons y r ih =>
    obtain ⟨a, b⟩ := y
    intro h
    simp only [alGet] at h
    by_cases e : k = a
    · rw [if_pos e] at h; cases h
    · rw [if_neg e] at h
      simp only [List.map_cons, List.mem_cons, not_or]
      exact ⟨e, ih h⟩
theorem put_app {B : Nat} {X : Mem} {H Hx : Hp} {kc km : Nat} {R ep : Int} {M1 : List (Ky × Wv)} {ov ov1 : SV} {L1 : List (Ky × Wy)} (hw : X.Wf) (hl : X.hl = H.length) (hkm : X.hb ≤ km) (hR : 1 ≤ R ∧ R ≤ 256) (lt : km < kc) (hkc : kc < H.length) (of0 : ∀ j ∈ slFp ov, kc < j)
    (kx : Keep (km :: kc :: slFp ov) H Hx) (lx : Hx.length = H.length) (hd : hget Hx kc 0 = some (.cells true [.int .i64 R, .int .i64 ep, .map (.hp km 0), ov1])) (mp : hget Hx km 0 = some (.map (alV kyV wvV M1))) (ox : Own kyF Hx ov1 (L1.map Prod.fst)) (fx : ∀ j ∈ slFp ov1, j ∈ slFp ov)
    (nd : (M1.map Prod.fst).Nodup) (nl : (L1.map Prod.fst).Nodup) (mr : MapR H (km :: kc :: slFp ov) M1 L1) (le : (L1.length : Int) < R) {k : Ky} (hM : alGet k M1 = none) (hL : alGet k L1 = none) (o : Int) {v : SV} {l : List (Int × Int)} (hv : LiesD cellF (Hm H) v l) (fv : ∀ j ∈ slFp v, j ∉ km :: kc :: slFp ov) (hb : 2 * l.length * 16 ≤ two48) (e : Option Nat) (he : e = none ∨ e = some kc) (ab : ∀ q w, alGet q M1 = some w → ∀ j ∈ slFp w.2, B ≤ j) (ob : ∀ j ∈ slFp ov, B ≤ j) (hB : B ≤ H.length) :
    ∃ H' u M' ov', putA X kc k o v ov1 Hx e = some (.int .i64 0, (X.hp H').es (escMin X.esc u)) ∧ CaP B H' kc km R ep M' ov' (L1 ++ [(k, (o, l))]) ∧ Keep (km :: kc :: slFp ov) H H' ∧ (∀ j ∈ slFp ov', j ∈ slFp ov ∨ H.length ≤ j) := by
  have hlc := hget_lt hd
  have hlm := hget_lt mp
  have as : assoc (.agg [.int .i64 k.1, .int .i64 k.2.1, .int .i64 k.2.2.1, .int .i64 k.2.2.2.1, .int .i64 k.2.2.2.2.1, .int .i64 k.2.2.2.2.2]) (alV kyV wvV M1) = some none := by
    have := assoc_ky wvV k M1
    rw [hM] at this
    exact this
  have bm : (X.hb ≤ km) = True := eq_true hkm
  have bc : (X.hb ≤ kc) = True := eq_true (by omega)
  have hol : (L1.map Prod.fst).length = L1.length := List.length_map _
  obtain ⟨H1, hH1⟩ : ∃ H1, Hx ++ [(0, SBk.cells true (kyC k))] = H1 := ⟨_, rfl⟩
  have k1 : Keep [] Hx H1 := by rw [← hH1]; exact Keep.app _ _ _
  have l1 : H1.length = Hx.length + 1 := by rw [← hH1, List.length_append]; rfl
  have y1 : LiesD kyF (Hm H1) (.sl (.hp Hx.length 0) 0 1 (some 1) 6) [k] := by rw [← hH1]; exact (own_new kyF_even Hx [k] (some 1)).lies kyF_even
  obtain ⟨ov', H2, ap, o2, k2, f2, n2⟩ := app_ownP kyF_even (by decide) (kyF_ok _) (kyF_ok _) (fun _ _ => by rw [kyF_hxs]; omega) (ox.keep k1 (by simp)) y1 (bytes := 48) (by simp only [List.length_singleton, two48]; omega) (by simp only [List.length_singleton, two48]; omega) km (fun j hj => by have := of0 j (fx j hj); omega)
  have ap' : ∀ f e, appV 6 48 [.int .i64 0, .int .i64 0, .int .i64 0, .int .i64 0, .int .i64 0, .int .i64 0] (fun _ => true) ov1 (.sl (.hp Hx.length 0) 0 1 (some 1) 6) ((X.hp H1).fr f e) = some (ov', (X.hp H2).fr f e) := fun f e => ap _ rfl _ (aw_of ox (fun _ _ _ => rfl)) _ rfl (by show X.hb ≤ km; exact hkm)
  have so := o2.isSl kyF_even
  have f2' : ∀ j ∈ slFp ov', j ∈ slFp ov ∨ H.length ≤ j := fun j hj => by
    rcases f2 j hj with h | h
    · exact .inl (fx j h)
    · exact .inr (by omega)
  have f2k : ∀ j ∈ slFp ov', kc < j := fun j hj => by
    rcases f2' j hj with h | h
    · exact of0 j h
    · omega
  have d2 := k2.get (k1.get hd (by simp)) (fun hc => by have := of0 kc (fx _ hc); omega)
  have m2 := k2.get (k1.get mp (by simp)) (fun hc => by have := of0 km (fx _ hc); omega)
  have q2 := k2.1
  have hox : (ov'.hx ≤ kc) = False := by
    obtain ⟨j, hj⟩ := own_fp7 o2 (by simp)
    have := hx_fp hj; have := f2k j hj
    exact eq_false (by omega)
  obtain ⟨H3, hH3⟩ : ∃ H3, H2.set kc (0, .cells true [.int .i64 R, .int .i64 ep, .map (.hp km 0), ov']) = H3 := ⟨_, rfl⟩
  have l3 : H3.length = H2.length := by rw [← hH3, List.length_set]
  have k3 : Keep [kc] H2 H3 := by rw [← hH3]; exact Keep.set (by simp) _ _
  have d3 : hget H3 kc 0 = some (.cells true [.int .i64 R, .int .i64 ep, .map (.hp km 0), ov']) := by rw [← hH3, hget_set_eq (by omega), if_pos rfl]
  have m3 := k3.get m2 (by simp; omega)
  have kH3 : Keep (km :: kc :: slFp ov) H H3 := ((kx.trans' k1 (by simp)).trans' k2 (fun m hm hl => by simp [fx m hm])).trans' k3 (fun m hm hl => by simp at hm; simp [hm])
  have hv3 : LiesD cellF (Hm H3) v l := hv.keep kH3 fv
  have sv := hv.isSl
  have eset : ∀ v', assocSet (.agg [.int .i64 k.1, .int .i64 k.2.1, .int .i64 k.2.2.1, .int .i64 k.2.2.2.1, .int .i64 k.2.2.2.2.1, .int .i64 k.2.2.2.2.2]) (.agg [.int .i64 o, v']) (alV kyV wvV M1) = alV kyV wvV (alSet k (o, v') M1) := fun v' => set_al (g := wvV) seq_ky k (o, v') M1
  have he2 : escMin e (some kc) = some kc := by rcases he with rfl | rfl <;> simp [escMin]
  simp (maxDischargeDepth := 8) only [go_sem, putA, hw, hH1, ap', so.l, so.c, so.k, so.o, sv.l, sv.c, sv.k, sv.o, bc, d2, hH3, hox, he2, d3]
  generalize hz : RF tb f_cache_own _ _ = z
  obtain ⟨v', H4, rfl, o4, k4, f4⟩ := own_of hz hv3 hb (by simp (maxDischargeDepth := 8) only [go_sem, hw]) (by simp (maxDischargeDepth := 8) only [go_sem]; exact Nat.le_refl _)
  have s1 := o4.isSl cellF_even
  change Keep [] H3 H4 at k4
  change ∀ i ∈ slFp v', H3.length ≤ i at f4
  have q4 := k4.1
  have m4 := k4.get m3 (by simp)
  have d4 := k4.get d3 (by simp)
  obtain ⟨H5, hH5⟩ : ∃ H5, H4.set km (0, SBk.map (alV kyV wvV (alSet k (o, v') M1))) = H5 := ⟨_, rfl⟩
  have l5 : H5.length = H4.length := by rw [← hH5, List.length_set]
  have k5 : Keep [km] H4 H5 := by rw [← hH5]; exact Keep.set (by simp) _ _
  have m5 : hget H5 km 0 = some (.map (alV kyV wvV (alSet k (o, v') M1))) := by rw [← hH5, hget_set_eq (by omega), if_pos rfl]
  have d5 := k5.get d4 (by simp; omega)
  have kH5 : Keep (km :: kc :: slFp ov) H H5 := (kH3.trans' k4 (by simp)).trans' k5 (fun m hm hl => by simp at hm; simp [hm])
  have fo : ∀ j ∈ slFp ov', j < H3.length := fun j hj => by have := o2.fp j hj; omega
  have ho5 : Own kyF H5 ov' ((L1 ++ [(k, ((o, l) : Wy))]).map Prod.fst) := by
    have : (L1 ++ [(k, ((o, l) : Wy))]).map Prod.fst = L1.map Prod.fst ++ [k] := by simp
    rw [this]
    exact ((o2.keep k3 (fun j hj hc => by simp at hc; have := f2k j hj; omega)).keep k4 (by simp)).keep k5 (fun j hj hc => by simp at hc; have := f2k j hj; omega)
  have hfin : CaP B H5 kc km R ep (alSet k (o, v') M1) ov' (L1 ++ [(k, (o, l))]) := by
    refine cap_mk lt d5 m5 ho5 kH5 of0 f2' hkc ((o4.lies cellF_even).keep k5 (fun j hj hc => by simp at hc; have := f4 j hj; omega)) (fun j hj hc => ?_) hb mr nd ?_ (by rw [List.length_append, List.length_singleton]; omega) (fun q => ?_) ?_ ?_ ?_ ?_
    · have h1 := f4 j hj
      simp only [List.mem_cons] at hc
      rcases hc with h | h | h
      · omega
      · omega
      · have := fo j h; omega
    · have : (L1 ++ [(k, ((o, l) : Wy))]).map Prod.fst = L1.map Prod.fst ++ [k] := by simp
      rw [this, List.nodup_append]
      refine ⟨nl, by simp, fun a ha b hb' e => ?_⟩
      simp at hb'
      subst hb'; subst e
      exact kyGet_none hL ha
    · rw [alGet_app]
      by_cases e : q = k
      · subst e; rw [hL, if_pos rfl]
      · rw [if_neg e]
        cases alGet q L1 <;> simp [e]
    · exact ab
    · exact ob
    · exact hB
    · intro j hj; have := f4 j hj; have := kH3.1; omega
  simp (maxDischargeDepth := 8) only [go_sem, hw, s1.l, s1.c, s1.k, s1.o, bm, m4, as, eset, hH5]
  by_cases hx : v'.hx ≤ km
  · simp only [if_pos hx]
    rw [escOk_some (by omega), if_neg (by decide)]
    exact ⟨H5, _, _, ov', rfl, hfin, kH5, f2'⟩
  · simp only [if_neg hx, show escMin (some kc) (some km) = some km from by simp [escMin]; omega]
    rw [escOk_some (by omega), if_neg (by decide)]
    exact ⟨H5, _, _, ov', rfl, hfin, kH5, f2'⟩
theorem put_tail {B : Nat} {X : Mem} {H : Hp} {kc km : Nat} {R ep : Int} {M : List (Ky × Wv)} {ov : SV} {L : List (Ky × Wy)} (h : CaP B H kc km R ep M ov L) (hw : X.Wf) (hl : X.hl = H.length) (hkm : X.hb ≤ km) (hR : 1 ≤ R ∧ R ≤ 256) (k : Ky) (o : Int) {v : SV} {l : List (Int × Int)} (hv : LiesD cellF (Hm H) v l) (fv : ∀ j ∈ slFp v, j ∉ km :: kc :: slFp ov) (hb : 2 * l.length * 16 ≤ two48) :
    ∃ H' u M' ov', putT X kc km M k o v H = some (.int .i64 0, (X.hp H').es (escMin X.esc u)) ∧ CaP B H' kc km R ep M' ov' (putL R L k (o, l)) ∧ Keep (km :: kc :: slFp ov) H H' ∧ (∀ j ∈ slFp ov', j ∈ slFp ov ∨ H.length ≤ j) := by
  have hd := h.at_.hd
  have mp := h.at_.mp
  have sv := hv.isSl
  have hlc := hget_lt hd
  have hlm := hget_lt mp
  have hlt := h.lt
  have hrk := h.mr k
  have as : assoc (.agg [.int .i64 k.1, .int .i64 k.2.1, .int .i64 k.2.2.1, .int .i64 k.2.2.2.1, .int .i64 k.2.2.2.2.1, .int .i64 k.2.2.2.2.2]) (alV kyV wvV M) = some ((alGet k M).map wvV) := assoc_ky wvV k M
  have bm : (X.hb ≤ km) = True := eq_true hkm
  have bc : (X.hb ≤ kc) = True := eq_true (by omega)
  unfold putL
  cases hM : alGet k M with
  | some w =>
    cases hL : alGet k L with
    | none => rw [hM, hL] at hrk; exact hrk.elim
    | some p =>
      rw [hM, hL] at hrk
      rw [hM] at as
      have sw := hrk.l.isSl
      rw [if_pos (show (some p).isSome = true from rfl)]
      simp (maxDischargeDepth := 8) only [go_sem, putT, hw, as, Option.map_some, Option.getD_some, Option.isSome_some, sw.l, sw.c, sw.k, sw.o, hd, mp, shut_get, sv.l, sv.c, sv.k, sv.o]
      generalize hz : RF tb f_cache_own _ _ = z
      obtain ⟨v', H1, rfl, q2, q3, q4⟩ := own_of hz hv hb (by simp (maxDischargeDepth := 8) only [go_sem, hw]) (by simp (maxDischargeDepth := 8) only [go_sem]; exact Nat.le_refl _)
      have s1 := q2.isSl cellF_even
      change Keep [] H H1 at q3
      change ∀ i ∈ slFp v', H.length ≤ i at q4
      have mp1 := q3.get mp (by simp)
      have eset : assocSet (.agg [.int .i64 k.1, .int .i64 k.2.1, .int .i64 k.2.2.1, .int .i64 k.2.2.2.1, .int .i64 k.2.2.2.2.1, .int .i64 k.2.2.2.2.2]) (.agg [.int .i64 o, v']) (alV kyV wvV M) = alV kyV wvV (alSet k (o, v') M) := set_al (g := wvV) seq_ky k (o, v') M
      obtain ⟨H2, hH2⟩ : ∃ H2, H1.set km (0, SBk.map (alV kyV wvV (alSet k (o, v') M))) = H2 := ⟨_, rfl⟩
      have q1 := q3.1
      have k2 : Keep [km] H1 H2 := by rw [← hH2]; exact Keep.set (by simp) _ _
      have l2 : H2.length = H1.length := by rw [← hH2, List.length_set]
      have m2 : hget H2 km 0 = some (.map (alV kyV wvV (alSet k (o, v') M))) := by rw [← hH2, hget_set_eq (by omega), if_pos rfl]
      have kH2 : Keep [km] H H2 := (q3.weak (T := [km]) (by simp)).trans' k2 (fun m hm hl => hm)
      have kn : k ∈ L.map Prod.fst := by
        rcases Classical.em (k ∈ L.map Prod.fst) with h | h
        · exact h
        · have : ∀ L : List (Ky × Wy), k ∉ L.map Prod.fst → alGet k L = none := by
            intro L
            induction L with
            | nil => intro _; rfl
            | cons y r ih =>
              obtain ⟨a, b⟩ := y
              intro h
              simp only [List.map_cons, List.mem_cons, not_or] at h
              simp only [alGet, if_neg h.1]; exact ih h.2
          rw [this L h] at hL; cases hL
      have ek : (alSet k ((o, l) : Wy) L).map Prod.fst = L.map Prod.fst := by
        clear hrk hL sw as
        have : ∀ L : List (Ky × Wy), k ∈ L.map Prod.fst → (alSet k ((o, l) : Wy) L).map Prod.fst = L.map Prod.fst := by
          intro L
          induction L with
          | nil => intro h; simp at h
          | cons y r ih =>
            obtain ⟨a, b⟩ := y
            intro h
            simp only [alSet]
            by_cases e : k = a
            · rw [if_pos e]; simp [e]
            · rw [if_neg e]
              simp only [List.map_cons, List.mem_cons] at h ⊢
              rcases h with h | h
              · exact absurd h e
              · rw [ih h]
        exact this L kn
      have el : (alSet k ((o, l) : Wy) L).length = L.length := by
        have := congrArg List.length ek
        simpa using this
      have fin : ∀ Hf : Hp, hget Hf km 0 = some (.map (alV kyV wvV (alSet k (o, v') M))) → Keep [km] H Hf → LiesD cellF (Hm Hf) v' l → CaP B Hf kc km R ep (alSet k (o, v') M) ov (alSet k (o, l) L) := by
        intro Hf mf kf lf
        refine cap_mk (H := H) (ov := ov) hlt (kf.get hd (by simp; omega)) mf (by rw [ek]; exact h.at_.od.keep kf (fun j hj hc => by simp at hc; have := h.of j hj; omega)) (kf.weak (fun m hm _ => by simp at hm; simp [hm])) h.of (fun j hj => .inl hj) hlc lf (fun j hj hc => ?_) hb h.mr h.nd (by rw [ek]; exact h.nl) (by rw [el]; exact h.le) (fun q => alGet_set k q (o, l) L) h.ab h.ob h.hB q4
        have h1 := q4 j hj
        simp only [List.mem_cons] at hc
        rcases hc with h2 | h2 | h2
        · omega
        · omega
        · have := h.at_.od.fp j h2; omega
      simp (maxDischargeDepth := 8) only [go_sem, hw, s1.l, s1.c, s1.k, s1.o, bm, mp1, as, eset, hH2]
      by_cases hx : v'.hx ≤ km
      · have hnf : slFp v' = [] := by
          cases hs : slFp v' with
          | nil => rfl
          | cons j r =>
            have hj : j ∈ slFp v' := by rw [hs]; simp
            have := hx_fp hj; have := q4 j hj; omega
        simp only [if_pos hx, escOk_none, if_true]
        have hk : Keep [km] H (H2.take X.hl) := kH2.take (by omega)
        refine ⟨H2.take X.hl, none, _, ov, rfl, fin _ ?_ hk ((q2.congr (B := H2.take X.hl) (fun i hi => by rw [hnf] at hi; cases hi)).lies cellF_even), hk.weak (fun m hm _ => by simp at hm; simp [hm]), fun j hj => .inl hj⟩
        unfold hget at m2 ⊢
        rw [List.getElem?_take, if_pos (by omega)]; exact m2
      · simp only [if_neg hx]
        rw [escOk_some (by omega), if_neg (by decide)]
        exact ⟨H2, some km, _, ov, rfl, fin H2 m2 kH2 ((q2.lies cellF_even).keep k2 (fun j hj hc => by simp at hc; have := q4 j hj; omega)), kH2.weak (fun m hm _ => by simp at hm; simp [hm]), fun j hj => .inl hj⟩
  | none =>
    cases hL : alGet k L with
    | some p => rw [hM, hL] at hrk; exact hrk.elim
    | none =>
      rw [hM] at as
      rw [if_neg (show ¬ (none : Option Wy).isSome = true by decide)]
      have ho := h.at_.od.lies kyF_even
      have so := h.at_.od.isSl kyF_even
      have hol : (L.map Prod.fst).length = L.length := List.length_map _
      have hll := h.le
      by_cases hlen : (L.length : Int) = R
      · rw [if_pos hlen]
        cases L with
        | nil => exact absurd hlen (by simp; omega)
        | cons y L' =>
          obtain ⟨k0, w0⟩ := y
          have hod := h.at_.od
          rw [List.map_cons] at ho hod
          dsimp only at ho hod
          have hnl := h.nl
          rw [List.map_cons, List.nodup_cons] at hnl
          have hof := h.of
          have hl1 : (k0 :: L'.map Prod.fst).length = L'.length + 1 := by simp
          have hlenq : ((L'.length + 1 : Nat) : Int) = R := by simpa using hlen
          have hk0 : k ≠ k0 := fun e => by subst e; simp [alGet] at hL
          have hLk : alGet k L' = none := by simp only [alGet, if_neg hk0] at hL; exact hL
          have ik := LiesD.iaddr0 ho
          have ldk := fun {Y : Mem} (hY : HpSub (Hm H) Y) => LiesD.load0 kyF_even (by decide) ho hY
          change ∀ (k : IntKind) (m' : Mem), iaddrV 6 ov (.int k 0) m' = _ at ik
          change ∀ {Y : Mem}, HpSub (Hm H) Y → Y.load (.hp (slN ov) (slW ov)) (slO ov) (some 6) = some (kyV k0) at ldk
          have asd : assoc (.agg [.int .i64 k0.1, .int .i64 k0.2.1, .int .i64 k0.2.2.1, .int .i64 k0.2.2.2.1, .int .i64 k0.2.2.2.2.1, .int .i64 k0.2.2.2.2.2]) (alV kyV wvV M) = some ((alGet k0 M).map wvV) := assoc_ky wvV k0 M
          have edel : assocDel (.agg [.int .i64 k0.1, .int .i64 k0.2.1, .int .i64 k0.2.2.1, .int .i64 k0.2.2.2.1, .int .i64 k0.2.2.2.2.1, .int .i64 k0.2.2.2.2.2]) (alV kyV wvV M) = alV kyV wvV (alDel k0 M) := del_al seq_ky k0 M
          have hds : sliceV 6 ov (some 1) none none = some (dropV 6 1 ov) := Lies.dropS1 ho (by simp)
          have od1 : Own kyF H (dropV 6 1 ov) (L'.map Prod.fst) := by
            have := own_drop kyF_even hod (lo := 1) (by simp)
            exact this
          have s1 := od1.isSl kyF_even
          have fp1 : slFp (dropV 6 1 ov) = slFp ov := dropV_fp' _ _ _
          obtain ⟨H1, hH1⟩ : ∃ H1, H.set km (0, SBk.map (alV kyV wvV (alDel k0 M))) = H1 := ⟨_, rfl⟩
          have l1 : H1.length = H.length := by rw [← hH1, List.length_set]
          have k1 : Keep [km] H H1 := by rw [← hH1]; exact Keep.set (by simp) _ _
          have m1 : hget H1 km 0 = some (.map (alV kyV wvV (alDel k0 M))) := by rw [← hH1, hget_set_eq (by omega), if_pos rfl]
          have d1 := k1.get hd (by simp; omega)
          obtain ⟨H2, hH2⟩ : ∃ H2, H1.set kc (0, SBk.cells true [.int .i64 R, .int .i64 ep, .map (.hp km 0), dropV 6 1 ov]) = H2 := ⟨_, rfl⟩
          have l2 : H2.length = H1.length := by rw [← hH2, List.length_set]
          have k2 : Keep [kc] H1 H2 := by rw [← hH2]; exact Keep.set (by simp) _ _
          have d2 : hget H2 kc 0 = some (.cells true [.int .i64 R, .int .i64 ep, .map (.hp km 0), dropV 6 1 ov]) := by rw [← hH2, hget_set_eq (by omega), if_pos rfl]
          have m2 := k2.get m1 (by simp; omega)
          have kH2 : Keep (km :: kc :: slFp ov) H H2 := (k1.weak (T := km :: kc :: slFp ov) (fun m hm _ => by simp at hm; simp [hm])).trans' k2 (fun m hm hl => by simp at hm; simp [hm])
          have od2 : Own kyF H2 (dropV 6 1 ov) (L'.map Prod.fst) := (od1.keep k1 (fun j hj hc => by rw [fp1] at hj; simp at hc; have := h.of j hj; omega)).keep k2 (fun j hj hc => by rw [fp1] at hj; simp at hc; have := h.of j hj; omega)
          have mr1 : MapR H (km :: kc :: slFp ov) (alDel k0 M) L' := fun q => by
            rw [alDel_get k0 q M h.nd]
            by_cases e : q = k0
            · subst e
              rw [if_pos rfl]
              have : alGet q L' = none := by
                cases hq : alGet q L' with
                | none => rfl
                | some x =>
                  exfalso
                  have hmem : ∀ L : List (Ky × Wy), alGet q L = some x → q ∈ L.map Prod.fst := by
                    intro L
                    induction L with
                    | nil => intro h; cases h
                    | cons y r ih =>
                      obtain ⟨a, b⟩ := y
                      intro h
                      simp only [alGet] at h
                      by_cases e : q = a
                      · simp [e]
                      · rw [if_neg e] at h; exact List.mem_cons_of_mem _ (ih h)
                  exact hnl.1 (hmem L' hq)
              rw [this]; trivial
            · rw [if_neg e]
              have := h.mr q
              simp only [alGet, if_neg e] at this
              exact this
          have ab1 : ∀ q w, alGet q (alDel k0 M) = some w → ∀ j ∈ slFp w.2, B ≤ j := fun q w hq => by
            rw [alDel_get k0 q M h.nd] at hq
            by_cases e : q = k0
            · rw [if_pos e] at hq; cases hq
            · rw [if_neg e] at hq; exact h.ab q w hq
          have hMk : alGet k (alDel k0 M) = none := by rw [alDel_get k0 k M h.nd, if_neg hk0]; exact hM
          have bR : (((L'.length + 1 : Nat) : Int) == R) = true := by rw [hlenq]; exact beq_self_eq_true _
          by_cases hx : (dropV 6 1 ov).hx ≤ kc
          · simp (maxDischargeDepth := 8) only [go_sem, putT, hw, as, Option.map_none, Option.getD_none, Option.isSome_none, hd, mp, shut_get, sv.l, sv.c, sv.k, sv.o, ho.len, hl1, bR, so.l, so.c, so.k, so.o, ik, ldk, bm, asd, edel, hH1, d1, hds, s1.l, s1.c, s1.k, s1.o, bc, hx, hH2, d2]
            exact put_app hw hl hkm hR hlt hlc h.of kH2 (l2.trans l1) d2 m2 od2 (fun j hj => by rw [fp1] at hj; exact hj) (alDel_keys _ _ h.nd) hnl.2 mr1 (by omega) hMk hLk o hv fv hb none (.inl rfl) ab1 h.ob h.hB
          · simp (maxDischargeDepth := 8) only [go_sem, putT, hw, as, Option.map_none, Option.getD_none, Option.isSome_none, hd, mp, shut_get, sv.l, sv.c, sv.k, sv.o, ho.len, hl1, bR, so.l, so.c, so.k, so.o, ik, ldk, bm, asd, edel, hH1, d1, hds, s1.l, s1.c, s1.k, s1.o, bc, hx, hH2, d2]
            exact put_app hw hl hkm hR hlt hlc h.of kH2 (l2.trans l1) d2 m2 od2 (fun j hj => by rw [fp1] at hj; exact hj) (alDel_keys _ _ h.nd) hnl.2 mr1 (by omega) hMk hLk o hv fv hb (some kc) (.inr rfl) ab1 h.ob h.hB
      · rw [if_neg hlen]
        simp (maxDischargeDepth := 8) only [go_sem, putT, hw, as, Option.map_none, Option.getD_none, Option.isSome_none, hd, mp, shut_get, sv.l, sv.c, sv.k, sv.o, ho.len, hol, show ((L.length : Int) == R) = false from beq_eq_false_iff_ne.2 hlen, so.l, so.c, so.k, so.o]
        exact put_app hw hl hkm hR hlt hlc h.of (Keep.refl _ _) rfl hd mp h.at_.od (fun j hj => hj) h.nd h.nl h.mr (by omega) hM hL o hv fv hb none (.inl rfl) h.ab h.ob h.hB
theorem r_cache_Put {B : Nat} {X : Mem} {kc km : Nat} {R ep : Int} {M : List (Ky × Wv)} {ov : SV} {L : List (Ky × Wy)} (h : CaP B X.heap kc km R ep M ov L) (hw : X.Wf) (hkm : X.hb ≤ km) (hR : 1 ≤ R ∧ R ≤ 256) (k : Ky) (e o : Int) {v : SV} {l : List (Int × Int)} (hv : LiesD cellF (Hm X.heap) v l) (fv : ∀ j ∈ slFp v, j ∉ km :: kc :: slFp ov) (hb : 2 * l.length * 16 ≤ two48) :
    ∃ H' u M' ov', RF tb f_cache_Cache_Put [.ptr (.hp kc 0) 0, kyV k, .int .i64 e, .agg [.int .i64 o, v]] X = some (.int .i64 0, (X.hp H').es (escMin X.esc u)) ∧ CaP B H' kc km R e M' ov' (putL R (if e = ep then L else []) k (o, l)) ∧ Keep (km :: kc :: slFp ov) X.heap H' ∧ (∀ j ∈ slFp ov', j ∈ slFp ov ∨ X.heap.length ≤ j) := by
  have hd := h.at_.hd
  have mp := h.at_.mp
  have sv := hv.isSl
  rw [RF_go t_cache_Cache_Put _ _ rfl, push_hp]
  generalize hH : X.heap = H at *
  have hHl : X.hl = H.length := by rw [← hH]; rfl
  have hR0 : (R == 0) = false := beq_eq_false_iff_ne.2 (by omega)
  have hlc := hget_lt hd
  have hlm := hget_lt mp
  have hlt := h.lt
  by_cases he : e = ep
  · rw [if_pos he]
    simp (maxDischargeDepth := 8) only [go_sem, s_cache_Cache_Put, hw, hH, hd, hR0, show (e != ep) = false from by simp [he], mp, shut_get, sv.l, sv.c, sv.k, sv.o]
    subst he
    exact put_tail h hw hHl hkm hR k o hv fv hb
  · rw [if_neg he]
    obtain ⟨H1, hH1⟩ : ∃ H1, H.set km (0, .map []) = H1 := ⟨_, rfl⟩
    have l1 : H1.length = H.length := by rw [← hH1, List.length_set]
    have k1 : Keep [km] H H1 := by rw [← hH1]; exact Keep.set (by simp) _ _
    have m1 : hget H1 km 0 = some (.map []) := by rw [← hH1, hget_set_eq (by omega), if_pos rfl]
    have d1 := k1.get hd (by simp; omega)
    obtain ⟨H2, hH2⟩ : ∃ H2, H1.set kc (0, SBk.cells true [.int .i64 R, .int .i64 ep, .map (.hp km 0), .nils]) = H2 := ⟨_, rfl⟩
    have l2 : H2.length = H1.length := by rw [← hH2, List.length_set]
    have k2 : Keep [kc] H1 H2 := by rw [← hH2]; exact Keep.set (by simp) _ _
    have d2 : hget H2 kc 0 = some (.cells true [.int .i64 R, .int .i64 ep, .map (.hp km 0), .nils]) := by rw [← hH2, hget_set_eq (by omega), if_pos rfl]
    have m2 := k2.get m1 (by simp; omega)
    obtain ⟨H3, hH3⟩ : ∃ H3, H2.set kc (0, SBk.cells true [.int .i64 R, .int .i64 e, .map (.hp km 0), .nils]) = H3 := ⟨_, rfl⟩
    have l3 : H3.length = H2.length := by rw [← hH3, List.length_set]
    have k3 : Keep [kc] H2 H3 := by rw [← hH3]; exact Keep.set (by simp) _ _
    have d3 : hget H3 kc 0 = some (.cells true [.int .i64 R, .int .i64 e, .map (.hp km 0), .nils]) := by rw [← hH3, hget_set_eq (by omega), if_pos rfl]
    have m3 := k3.get m2 (by simp; omega)
    have m3' : hget H3 km 0 = some (.map (alV kyV wvV [])) := m3
    have kH3 : Keep (km :: kc :: slFp ov) H H3 := ((k1.weak (T := km :: kc :: slFp ov) (fun m hm _ => by simp at hm; simp [hm])).trans' k2 (fun m hm hl => by simp at hm; simp [hm])).trans' k3 (fun m hm hl => by simp at hm; simp [hm])
    have h3 : CaP B H3 kc km R e [] .nils [] := ⟨⟨d3, m3, Own.nil _⟩, by simp, by simp, hlt, by simp [slFp], fun q => trivial, by simp; omega, fun q w hq => (by cases hq), by simp [slFp], by have := h.hB; omega⟩
    simp (maxDischargeDepth := 8) only [go_sem, s_cache_Cache_Put, hw, hH, hd, hR0, show (e != ep) = true from by simp [he], mp, hH1, d1, hH2, d2, hH3, d3, m3', shut_get, sv.l, sv.c, sv.k, sv.o, show (X.hb ≤ km) = True from eq_true hkm, show (X.hb ≤ kc) = True from eq_true (by omega)]
    obtain ⟨H', u, M', ov', r1, r2, r3, r4⟩ := put_tail (X := X) h3 hw (by omega) hkm hR k o (hv.keep kH3 fv) (fun j hj hc => fv j hj (by simp [slFp] at hc; rcases hc with h | h <;> simp [h])) hb
    refine ⟨H', u, M', ov', r1, r2, kH3.trans' r3 (fun m hm hl => by simp [slFp] at hm; rcases hm with h | h <;> simp [h]), fun j hj => ?_⟩
    rcases r4 j hj with h | h
    · simp [slFp] at h
    · exact .inr (by omega)
theorem cput_of {B : Nat} {X : Mem} {kc km : Nat} {R ep : Int} {M : List (Ky × Wv)} {ov : SV} {L : List (Ky × Wy)} {k : Ky} {e o : Int} {v : SV} {z : Option (SV × Mem)} (hz : RF tb f_cache_Cache_Put [.ptr (.hp kc 0) 0, kyV k, .int .i64 e, .agg [.int .i64 o, v]] X = z) (h : CaP B X.heap kc km R ep M ov L) (hw : X.Wf) (hkm : X.hb ≤ km) (hR : 1 ≤ R ∧ R ≤ 256) {l : List (Int × Int)} (hv : LiesD cellF (Hm X.heap) v l) (fv : ∀ j ∈ slFp v, j ∉ km :: kc :: slFp ov) (hb : 2 * l.length * 16 ≤ two48) :
    ∃ H' u M' ov', z = some (.int .i64 0, (X.hp H').es (escMin X.esc u)) ∧ CaP B H' kc km R e M' ov' (putL R (if e = ep then L else []) k (o, l)) ∧ Keep (km :: kc :: slFp ov) X.heap H' ∧ (∀ j ∈ slFp ov', j ∈ slFp ov ∨ X.heap.length ≤ j) := by
  subst hz; exact r_cache_Put h hw hkm hR k e o hv fv hb
structure RfP (H : Hp) (S : List Nat) (kd : Nat) (R ep : Int) (kv wv : SV) (WL : List Wv) (L : List (Ky × Wy)) : Prop where
  hd : hget H kd 0 = some (.cells true [.int .i64 R, .int .i64 ep, kv, wv])
  kl : LiesD kyF (Hm H) kv (L.map Prod.fst)
  wl : LiesD wvF (Hm H) wv WL
  len : WL.length = L.length
  wr : ∀ (i : Nat) (w : Wv) (p : Ky × Wy), WL[i]? = some w → L[i]? = some p → WayOk H S w p.2
  fk : ∀ j ∈ slFp kv, j ∉ S
  fw : ∀ j ∈ slFp wv, j ∉ S
theorem RfP.keep {H H' : Hp} {S T S' : List Nat} {kd : Nat} {R ep : Int} {kv wv : SV} {WL : List Wv} {L : List (Ky × Wy)} (h : RfP H S kd R ep kv wv WL L) (k : Keep T H H') (hT : ∀ j ∈ T, j ∈ S) (hk : kd ∉ T) (hS : ∀ j ∈ S', j < H.length → j ∈ S) : RfP H' S' kd R ep kv wv WL L :=
  ⟨k.get h.hd hk, h.kl.keep k (fun j hj hc => h.fk j hj (hT j hc)), h.wl.keep k (fun j hj hc => h.fw j hj (hT j hc)), h.len, fun i w p h1 h2 => (h.wr i w p h1 h2).keep (k.weak (fun m hm _ => hT m hm)) hS, fun j hj hc => h.fk j hj (hS j hc (h.kl.fp j hj)), fun j hj hc => h.fw j hj (hS j hc (h.wl.fp j hj))⟩
theorem RfP.wsl {H : Hp} {S : List Nat} {kd : Nat} {R ep : Int} {kv wv : SV} {WL : List Wv} {L : List (Ky × Wy)} (h : RfP H S kd R ep kv wv WL L) : ∀ w ∈ WL, IsSl w.2 := fun w hw => by
  obtain ⟨i, hi⟩ := List.getElem?_of_mem hw
  have hlt : i < WL.length := (List.getElem?_eq_some_iff.1 hi).1
  exact (h.wr i w (L[i]'(by rw [← h.len]; exact hlt)) hi (List.getElem?_eq_getElem (by rw [← h.len]; exact hlt))).l.isSl
theorem ky_eqb (a k : Ky) : (a.1 == k.1 && (a.2.1 == k.2.1 && (a.2.2.1 == k.2.2.1 && (a.2.2.2.1 == k.2.2.2.1 && (a.2.2.2.2.1 == k.2.2.2.2.1 && a.2.2.2.2.2 == k.2.2.2.2.2))))) = decide (a = k) := by
  obtain ⟨a1, a2, a3, a4, a5, a6⟩ := a
  obtain ⟨b1, b2, b3, b4, b5, b6⟩ := k
  rw [Bool.eq_iff_iff]
  simp
/-- Where a key is. -/
def PlaceR (K : List Ky) (k : Ky) (r : Int) : Prop := (r = -1 ∧ k ∉ K) ∨ ∃ i : Nat, r = (i : Int) ∧ K[i]? = some k
theorem LiesD.iaddrKy {m : Mem} {v : SV} {l : List Ky} (h : LiesD kyF m v l) {i : Nat} (hi : i < l.length) (k : IntKind) (m' : Mem) : iaddrV 6 v (.int k (i : Int)) m' = some (.ptr (.hp (slN v) (slW v)) (slO v + i * 6), m') := Lies.iaddr h hi k m'
theorem LiesD.loadKy {m : Mem} {v : SV} {l : List Ky} (h : LiesD kyF m v l) {i : Nat} {a : Ky} (hi : l[i]? = some a) {X : Mem} (hX : HpSub m X) : X.load (.hp (slN v) (slW v)) (slO v + i * 6) (some 6) = some (kyV a) := LiesD.loadX kyF_even (by decide) h hi hX
theorem LiesD.iaddrWv {m : Mem} {v : SV} {l : List Wv} (h : LiesD wvF m v l) {i : Nat} (hi : i < l.length) (k : IntKind) (m' : Mem) : iaddrV 2 v (.int k (i : Int)) m' = some (.ptr (.hp (slN v) (slW v)) (slO v + i * 2), m') := Lies.iaddr h hi k m'
theorem LiesD.loadWv {m : Mem} {v : SV} {l : List Wv} (h : LiesD wvF m v l) {i : Nat} {a : Wv} (hi : l[i]? = some a) {X : Mem} (hX : HpSub m X) : X.load (.hp (slN v) (slW v)) (slO v + i * 2) (some 2) = some (wvV a) := LiesD.loadX wvF_even (by decide) h hi hX
theorem r_place {H : Hp} {S : List Nat} {kd : Nat} {R ep : Int} {kv wv : SV} {WL : List Wv} {L : List (Ky × Wy)} (h : RfP H S kd R ep kv wv WL L) (hLl : L.length ≤ 4611686018427387903) {X : Mem} (hX : HpSub (Hm H) X) (hw : X.Wf) (k : Ky) : ∃ r, RF tb f_ref16_place [.ptr (.hp kd 0) 0, kyV k] X = some (.int .i64 r, X) ∧ PlaceR (L.map Prod.fst) k r := by
  have hld : ∀ {Y : Mem}, HpSub (Hm H) Y → ∀ off n, Y.load (.hp kd 0) off n = partv [.int .i64 R, .int .i64 ep, kv, wv] off n := fun hY off n => by rw [load_get, hY _ _ _ h.hd]
  have sk := h.kl.isSl
  have hol : (L.map Prod.fst).length = L.length := List.length_map _
  obtain ⟨K, hK⟩ : ∃ K, L.map Prod.fst = K := ⟨_, rfl⟩
  have kl := h.kl
  rw [hK] at kl hol ⊢
  rw [RF_go t_ref16_place _ _ rfl]
  simp (maxDischargeDepth := 8) only [go_sem, s_ref16_place, hw]
  rw [KL_keep _ _ _ (by simp (maxDischargeDepth := 8) only [go_sem])]
  simp (maxDischargeDepth := 8) only [go_sem]
  refine KL_ind (R := fun z => ∃ r, fin [.t 4] X z = some (.int .i64 r, X) ∧ PlaceR K k r)
    (α := Nat) (fun q => K.length - q) (fun q => [(0, .ptr (.hp kd 0) 0), (3, .ptr (.st X.dep 0) 0), (5, .int .i64 (q : Int))]) (fun q => X.fr [.cells true (kyC k)] none)
    (fun q => q ≤ K.length ∧ ∀ j, j < q → K[j]? ≠ some k) ?_ 0 ⟨Nat.zero_le _, fun j hj => by omega⟩
  rintro q ⟨hq, hno⟩ ih
  by_cases hlt : q < K.length
  · obtain ⟨a, ha⟩ : ∃ a, K[q]? = some a := ⟨_, List.getElem?_eq_getElem hlt⟩
    have hse := ky_eqb a k
    have hld2 := fun {Y : Mem} (hY : HpSub (Hm H) Y) => LiesD.loadKy kl ha hY
    by_cases e : a = k
    · rw [decide_eq_true e] at hse
      simp (maxDischargeDepth := 8) only [go_sem, hw, hX, hld, kl.len, show decide ((q : Int) < (K.length : Int)) = true from decide_eq_true (by omega), LiesD.iaddrKy kl hlt, hld2, hse]
      exact ⟨_, rfl, .inr ⟨q, rfl, by rw [ha, e]⟩⟩
    · rw [decide_eq_false e] at hse
      simp (maxDischargeDepth := 8) only [go_sem, hw, hX, hld, kl.len, show decide ((q : Int) < (K.length : Int)) = true from decide_eq_true (by omega), LiesD.iaddrKy kl hlt, hld2, hse, wrap_succ (show q ≤ 4611686018427387903 by omega)]
      rw [KL_keep _ _ _ (by simp (maxDischargeDepth := 8) only [go_sem])]
      simp (maxDischargeDepth := 8) only [go_sem]
      refine ih (q + 1) ⟨by omega, fun j hj => ?_⟩ (by omega)
      rcases Nat.lt_or_ge j q with h1 | h1
      · exact hno j h1
      · rw [show j = q by omega, ha]; exact fun h => e (Option.some.inj h)
  · have hqe : q = K.length := by omega
    simp (maxDischargeDepth := 8) only [go_sem, hw, hX, hld, kl.len, show decide ((q : Int) < (K.length : Int)) = false from decide_eq_false (by omega)]
    refine ⟨_, rfl, .inl ⟨rfl, fun hc => ?_⟩⟩
    obtain ⟨i, hi⟩ := List.getElem?_of_mem hc
    exact hno i (by have := (List.getElem?_eq_some_iff.1 hi).1; omega) hi
theorem alGet_at {β : Type} {k : Ky} {x : β} : ∀ {L : List (Ky × β)} {i : Nat}, (L.map Prod.fst).Nodup → L[i]? = some (k, x) → alGet k L = some x := by
  intro L
  induction L with
  | nil => intro i _ h; simp at h
  | cons y r ih =>
    obtain ⟨a, b⟩ := y
    intro i hn h
    simp only [List.map_cons, List.nodup_cons] at hn
    cases i with
    | zero => simp at h; obtain ⟨rfl, rfl⟩ := h; simp [alGet]
    | succ i =>
      rw [List.getElem?_cons_succ] at h
      have hm : k ∈ r.map Prod.fst := List.mem_map.2 ⟨(k, x), List.mem_of_getElem? h, rfl⟩
      simp only [alGet]
      rw [if_neg (fun e => by subst e; exact hn.1 hm)]
      exact ih hn.2 h
theorem alGet_no {β : Type} {k : Ky} : ∀ {L : List (Ky × β)}, k ∉ L.map Prod.fst → alGet k L = none := by
  intro L
  induction L with
  | nil => intro _; rfl
  | cons y r ih =>
    obtain ⟨a, b⟩ := y
    intro h
    simp only [List.map_cons, List.mem_cons, not_or] at h
    simp only [alGet, if_neg h.1]; exact ih h.2
theorem PlaceR.get {L : List (Ky × Wy)} {k : Ky} {r : Int} (h : PlaceR (L.map Prod.fst) k r) (hn : (L.map Prod.fst).Nodup) : (r = -1 ∧ alGet k L = none) ∨ ∃ (i : Nat) (p : Wy), r = (i : Int) ∧ i < L.length ∧ L[i]? = some (k, p) ∧ alGet k L = some p := by
  rcases h with ⟨h1, h2⟩ | ⟨i, h1, h2⟩
  · exact .inl ⟨h1, alGet_no h2⟩
  · rw [List.getElem?_map] at h2
    cases hi : L[i]? with
    | none => rw [hi] at h2; cases h2
    | some y =>
      rw [hi] at h2
      obtain ⟨a, p⟩ := y
      simp at h2
      subst h2
      exact .inr ⟨i, p, h1, (List.getElem?_eq_some_iff.1 hi).1, hi, alGet_at hn hi⟩
theorem r_ref16_Get {H : Hp} {S : List Nat} {kd : Nat} {R ep : Int} {kv wv : SV} {WL : List Wv} {L : List (Ky × Wy)} (h : RfP H S kd R ep kv wv WL L) (hn : (L.map Prod.fst).Nodup) (hLl : L.length ≤ 4611686018427387903) {X : Mem} (hX : HpSub (Hm H) X) (hw : X.Wf) (k : Ky) (e : Int) :
    ∃ v', RF tb f_ref16_Get [.ptr (.hp kd 0) 0, kyV k, .int .i64 e] X = some (.tup [.agg [.int .i64 ((getP ep L k e).getD (0, [])).1, v'], .bool (getP ep L k e).isSome], X) ∧ LiesD cellF (Hm H) v' ((getP ep L k e).getD (0, [])).2 := by
  have hld : ∀ {Y : Mem}, HpSub (Hm H) Y → ∀ off n, Y.load (.hp kd 0) off n = partv [.int .i64 R, .int .i64 ep, kv, wv] off n := fun hY off n => by rw [load_get, hY _ _ _ h.hd]
  rw [RF_go t_ref16_Get _ _ rfl]
  obtain ⟨r, hp, hr⟩ := r_place h hLl (X := X.fr [.cells true (kyC k), .cells true [.int .i64 0, .nils]] none) (by simp (maxDischargeDepth := 8) only [go_sem, hX]) (fr_wf hw _ _) k
  unfold getP
  rcases hr.get hn with ⟨rfl, hg⟩ | ⟨i, p, rfl, hi, hLi, hg⟩
  · rw [hg]
    simp (maxDischargeDepth := 8) only [go_sem, s_ref16_Get, hw, hp, show decide ((-1 : Int) < 0) = true from by decide]
    refine ⟨.nils, ?_, ?_⟩
    · split <;> rfl
    · split <;> exact LiesD.nil cellF _
  · rw [hg]
    by_cases he : e = ep
    · rw [if_pos he]
      obtain ⟨w, hwi⟩ : ∃ w, WL[i]? = some w := ⟨_, List.getElem?_eq_getElem (by rw [h.len]; exact hi)⟩
      have hok := h.wr i w (k, p) hwi hLi
      have sw := hok.l.isSl
      have eo := hok.o
      have hlt : i < WL.length := by rw [h.len]; exact hi
      have hl2 := fun {Y : Mem} (hY : HpSub (Hm H) Y) => LiesD.loadWv h.wl hwi hY
      simp (maxDischargeDepth := 8) only [go_sem, s_ref16_Get, hw, hX, hld, hp, show decide ((i : Int) < 0) = false from decide_eq_false (by omega), show (e != ep) = false from by simp [he], LiesD.iaddrWv h.wl hlt, hl2, sw.l, sw.c, sw.k, sw.o]
      dsimp only at eo
      rw [eo]
      exact ⟨w.2, rfl, hok.l⟩
    · rw [if_neg he]
      simp (maxDischargeDepth := 8) only [go_sem, s_ref16_Get, hw, hX, hld, hp, show decide ((i : Int) < 0) = false from decide_eq_false (by omega), show (e != ep) = true from by simp [he]]
      exact ⟨.nils, rfl, LiesD.nil cellF _⟩
section
variable {α : Type} {d : Fl α} {H : Hp} {v y : SV} {l k : List α}
theorem app2 (hd : d.Even) (hp : 0 < d.sz) (hy : LiesD d (Hm H) y l) (a : α) (hok : SV.cellsOk 0 0 (l.flatMap d.enc) = true) (hoka : SV.cellsOk 0 0 (d.enc a) = true) (hx1 : SV.hxs (l.flatMap d.enc) ≤ H.length) (hx2 : SV.hxs (d.enc a) ≤ H.length) {bytes : Nat} (hb : 2 * (l.length + 1) * bytes ≤ two48) (hb' : l.length + 1 ≤ two48) (B : Nat) (hB : B ≤ H.length) :
    ∃ v1 H1 v2 H2, (∀ z : List SV, z.length = d.sz → ∀ aw, (∀ k w, aw (.hp k w) = true) → ∀ Y : Mem, Y.heap = H ++ [(0, .cells true [])] → Y.hb ≤ B → appV d.sz bytes z aw (.sl (.hp H.length 0) 0 0 (some 0) d.sz) y Y = some (v1, Y.hp H1)) ∧
      (∀ z : List SV, z.length = d.sz → ∀ aw, (∀ k w, aw (.hp k w) = true) → ∀ Y : Mem, Y.heap = H1 ++ [(0, .cells true (d.enc a))] → Y.hb ≤ B → appV d.sz bytes z aw v1 (.sl (.hp H1.length 0) 0 1 (some 1) d.sz) Y = some (v2, Y.hp H2)) ∧
      Own d H2 v2 (l ++ [a]) ∧ Keep [] H H1 ∧ Keep [] H H2 ∧ (∀ i ∈ slFp v2, H.length ≤ i) ∧ IsSl v1 ∧ IsSl v2 ∧ Own d H1 v1 l ∧ (∀ i ∈ slFp v1, H.length ≤ i) := by
  have own0 : Own d (H ++ [(0, .cells true [])]) (.sl (.hp H.length 0) 0 0 (some 0) d.sz) [] := own_new hd H [] (some 0)
  have hy' : LiesD d (Hm (H ++ [(0, .cells true [])])) y l := hy.keep (Keep.app [] _ _) (by simp)
  have hb1 : 2 * (0 + l.length) * bytes ≤ two48 := Nat.le_trans (Nat.mul_le_mul_right _ (by omega)) hb
  obtain ⟨v1, H1, a1, o1, k1, f1, n1⟩ := app_ownP hd hp (by rfl) hok (fun i hi => by simp [slFp] at hi; omega) own0 hy' (bytes := bytes) (by simpa using hb1) (by simp; omega) B (fun i hi => by simp [slFp] at hi; omega)
  have kk1 : Keep [] H H1 := (Keep.app [] H [(0, .cells true [])]).trans' k1 (by simp [slFp])
  have f1' : ∀ i ∈ slFp v1, H.length ≤ i := fun i hi => by
    rcases f1 i hi with h | h
    · simp [slFp] at h; omega
    · simp at h; omega
  have ya : LiesD d (Hm (H1 ++ [(0, .cells true (d.enc a))])) (.sl (.hp H1.length 0) 0 1 (some 1) d.sz) [a] := by
    have := (own_new hd H1 [a] (some 1)).lies hd
    simpa using this
  have o1' : Own d (H1 ++ [(0, .cells true (d.enc a))]) v1 l := (by simpa using o1 : Own d H1 v1 l).keep (Keep.app [] _ _) (by simp)
  obtain ⟨v2, H2, a2, o2, k2, f2, n2⟩ := app_ownP hd hp hok (by simpa using hoka) (fun i hi => by have := f1' i hi; simp; omega) o1' ya (bytes := bytes) (by simpa using hb) (by simpa using hb') B (fun i hi => by have := f1' i hi; omega)
  refine ⟨v1, H1, v2, H2, fun z hz aw haw Y hY hYb => a1 z hz aw (haw _ _) Y hY hYb, fun z hz aw haw Y hY hYb => a2 z hz aw (o1'.aw haw) Y hY hYb, o2, kk1, (kk1.trans (Keep.app [] H1 [(0, .cells true (d.enc a))])).trans' k2 (fun m hm hl => by have := f1' m hm; omega), fun i hi => ?_, (by simpa using o1 : Own d H1 v1 l).isSl hd, o2.isSl hd, by simpa using o1, f1'⟩
  rcases f2 i hi with h | h
  · exact f1' i h
  · have := kk1.1; simp at h; omega
theorem storeP (hd : d.Even) (hp : 0 < d.sz) (hv : Own d H v l) {i : Nat} (hi : i < l.length) (a : α) (hok : SV.cellsOk 0 0 (d.enc a) = true) (hx : ∀ j ∈ slFp v, SV.hxs (d.enc a) ≤ j) (B : Nat) (hm : ∀ i ∈ slFp v, B ≤ i) :
    ∃ H', (∀ Y : Mem, Y.heap = H → Y.hb ≤ B → Y.store (.hp (slN v) (slW v)) (slO v + i * d.sz) (d.enc a) = some (Y.hp H')) ∧ Own d H' v (l.set i a) ∧ Keep (slFp v) H H' ∧ H'.length = H.length := by
  rcases hv with ⟨rfl, rfl⟩ | ⟨rfl, rfl⟩ | ⟨n, w, off, cap, c, rfl, h1, h2, h3⟩
  · simp at hi
  · simp at hi
  · have hle : (i + 1) * d.sz ≤ l.length * d.sz := Nat.mul_le_mul_right _ hi
    rw [Nat.add_mul, Nat.one_mul] at hle
    refine ⟨H.set n (w, .cells true (c.take (off + i * d.sz) ++ d.enc a ++ c.drop (off + i * d.sz + d.sz))), ?_, ?_, Keep.set (by simp [slFp]) _ _, by simp⟩
    · intro Y hY hYb
      subst hY
      have h4 : Y.get (.hp n w) = some (.cells true c) := h1
      have h5 : Y.may (.hp n w) = true := decide_eq_true (by have := hm n (by simp [slFp]); omega)
      have h6 : SV.hxs (d.enc a) ≤ n := hx n (by simp [slFp])
      simp only [Mem.store, slN, slW, slO, h4, h5, Bk.room, hok, true_and, if_true, hd.len]
      rw [if_pos (by omega)]
      simp only [Mem.note, h6, if_true]
      rfl
    · refine .inr (.inr ⟨n, w, off, cap, _, by rw [List.length_set], by rw [hget_set_eq (hget_lt h1), if_pos rfl], ?_, ?_⟩)
      · simp only [List.length_append, List.length_take, List.length_drop, hd.len, List.length_set]; omega
      · have e0 : ((c.drop off).take (l.length * d.sz)).length = l.length * d.sz := by rw [h3, flat_len hd]
        rw [List.length_set, flat_set hd hi, ← h3]
        apply List.ext_getElem?
        intro j
        simp only [List.getElem?_take, List.getElem?_drop, List.getElem?_append, List.length_append, List.length_take, List.length_drop, hd.len]
        by_cases hj : j < l.length * d.sz
        · simp only [if_pos hj]
          by_cases q1 : j < i * d.sz
          · rw [if_pos (by omega), if_pos (by omega), if_pos (by omega), if_pos (by omega), if_pos (by omega), if_pos (by omega)]
          · by_cases q2 : j < i * d.sz + d.sz
            · rw [if_pos (by omega), if_neg (by omega), if_pos (by omega), if_neg (by omega)]
              congr 1
              omega
            · rw [if_neg (by omega), if_neg (by omega), if_pos (by omega)]
              congr 1
              omega
        · rw [if_neg hj]
          by_cases q0 : d.enc a = []
          · have := hd.len a
            rw [q0] at this
            simp at this
            omega
          · rw [if_neg (by omega), if_neg (by omega)]
end
theorem wv_hxs {l : List Wv} {n : Nat} (h : ∀ w ∈ l, w.2.hx ≤ n) : SV.hxs (l.flatMap wvF.enc) ≤ n := by
  induction l with
  | nil => exact Nat.zero_le _
  | cons a l ih =>
    have h1 := h a List.mem_cons_self
    have h2 := ih (fun w hw => h w (List.mem_cons_of_mem _ hw))
    rw [List.flatMap_cons]
    show max 0 (max a.2.hx (SV.hxs (l.flatMap wvF.enc))) ≤ n
    omega
theorem sl_hx {v : SV} (h : IsSl v) {n : Nat} (hf : ∀ j ∈ slFp v, j < n) : v.hx ≤ n := by
  rw [h.xs]
  cases hs : slFp v with
  | nil => exact Nat.zero_le _
  | cons j r => exact hf j (by rw [hs]; simp)
theorem alSet_at {β : Type} {k : Ky} {x y : β} : ∀ {L : List (Ky × β)} {i : Nat}, (L.map Prod.fst).Nodup → L[i]? = some (k, y) → alSet k x L = L.set i (k, x) := by
  intro L
  induction L with
  | nil => intro i _ h; simp at h
  | cons z r ih =>
    obtain ⟨a, b⟩ := z
    intro i hn h
    simp only [List.map_cons, List.nodup_cons] at hn
    cases i with
    | zero => simp at h; obtain ⟨rfl, rfl⟩ := h; simp [alSet]
    | succ i =>
      rw [List.getElem?_cons_succ] at h
      have hm : k ∈ r.map Prod.fst := List.mem_map.2 ⟨(k, y), List.mem_of_getElem? h, rfl⟩
      simp only [alSet]
      rw [if_neg (fun e => by subst e; exact hn.1 hm), ih hn.2 h, List.set_cons_succ]
noncomputable abbrev rputT (X : Mem) (kd : Nat) (k : Ky) (o : Int) (av : SV) (H : Hp) : Option (SV × Mem) :=
  fin [] X (KV tb [.seq s_ref16_Put_p7, .kp [0, 5, 7], .seq ((SCode.kp [0, 5, 7] ((SCode.kp [0, 5, 7, 60] s_ref16_Put_p8).seq (.cond (.t 60) s_ref16_Put_p9 .skip))).seq ((SCode.kp [0, 7] s_ref16_Put_p10).seq s_ref16_Put_p11))] false
    (RF tb f_ref16_place [.ptr (.hp kd 0) 0, kyV k] ((X.hp H).fr [.cells true (kyC k), .cells true [.int .i64 o, av]] none)) (some 32) [⟨some 8, .mv (.t 32), none, false⟩]
    [(31, kyV k), (30, .ptr (.hp kd 0) 0), (0, .ptr (.hp kd 0) 0), (5, .ptr (.st X.dep 0) 0), (7, .ptr (.st X.dep 1) 0)])
noncomputable abbrev rputA (X : Mem) (kd : Nat) (k : Ky) (o : Int) (av kv : SV) (Hx : Hp) (e : Option Nat) : Option (SV × Mem) :=
  fin [] X (KV tb [.kp [0, 7], .seq s_ref16_Put_p11] true
    (appV 6 48 [.int .i64 0, .int .i64 0, .int .i64 0, .int .i64 0, .int .i64 0, .int .i64 0] (fun b => decide ¬Bk.st X.dep 0 = b) (.sl (.hp Hx.length 0) 0 0 (some 0) 6) kv ((X.hp (Hx ++ [(0, .cells true [])])).fr [.cells true (kyC k), .cells true [.int .i64 o, av]] e))
    (some 83)
    [⟨some 85, .bslice [.int .i64 0, .int .i64 0, .int .i64 0, .int .i64 0, .int .i64 0, .int .i64 0] 1 6 [(0, 6, .t 84)], none, true⟩, ⟨some 86, .append 6 48 [.int .i64 0, .int .i64 0, .int .i64 0, .int .i64 0, .int .i64 0, .int .i64 0] [] (.t 83) (.t 85), none, false⟩, ⟨some 87, .nilck (.t 77), none, false⟩, ⟨some 88, .faddr 2 (.t 87), none, false⟩, ⟨none, .store 1 [] (.t 88) (.t 86), none, false⟩]
    [(78, .sl (.hp Hx.length 0) 0 0 (some 0) 6), (84, kyV k), (82, kv), (81, .ptr (.hp kd 0) 2), (80, .ptr (.hp kd 0) 0), (79, .ptr (.hp kd 0) 0), (77, .ptr (.hp kd 0) 0), (0, .ptr (.hp kd 0) 0), (5, .ptr (.st X.dep 0) 0), (7, .ptr (.st X.dep 1) 0)])
theorem rput_app {X : Mem} {H Hx : Hp} {S : List Nat} {kd : Nat} {R ep : Int} {kv wv : SV} {WL : List Wv} {L : List (Ky × Wy)} (h : RfP Hx S kd R ep kv wv WL L) (kx : Keep [kd] H Hx) (lx : Hx.length = H.length) (hR : 1 ≤ R ∧ R ≤ 256) (hl : (L.length : Int) < R) (hw : X.Wf) (hhb : X.hb ≤ kd) (hkd : kd < X.hl) (hS : ∀ j ∈ S, j < H.length) (k : Ky) (o : Int) {av : SV} {l : List (Int × Int)} (hv : LiesD cellF (Hm Hx) av l) (fv : ∀ j ∈ slFp av, j ∉ S) (hb : 2 * l.length * 16 ≤ two48) (hkS : kd ∈ S) (e : Option Nat) (he : e = none ∨ e = some kd) :
    ∃ H' u kv' wv' WL', rputA X kd k o av kv Hx e = some (.tup [], (X.hp H').es (escMin X.esc u)) ∧ RfP H' S kd R ep kv' wv' WL' (L ++ [(k, (o, l))]) ∧ Keep [kd] H H' := by
  have hd := h.hd
  have hlc := hget_lt hd
  have sav := hv.isSl
  have hol : (L.map Prod.fst).length = L.length := List.length_map _
  have hwsl := h.wsl
  have hwl : WL.length = L.length := h.len
  have hfw : ∀ w ∈ WL, w.2.hx ≤ Hx.length := fun w hw => by
    obtain ⟨j, hj⟩ := List.getElem?_of_mem hw
    have hlt : j < WL.length := (List.getElem?_eq_some_iff.1 hj).1
    have := h.wr j w (L[j]'(by rw [← h.len]; exact hlt)) hj (List.getElem?_eq_getElem (by rw [← h.len]; exact hlt))
    exact sl_hx (hwsl w hw) (this.l.fp)
  obtain ⟨c1, H1, c2, H2, a1, a2, oc, k1, k2, fc, s1, s2, -, -⟩ := app2 kyF_even (by decide) h.kl k (kyF_ok _) (kyF_ok [k]) (by rw [kyF_hxs]; omega) (by have := kyF_hxs [k]; simp at this; omega) (bytes := 48) (by rw [hol]; simp only [two48]; omega) (by rw [hol]; simp only [two48]; omega) kd (by omega)
  have a1' : ∀ f e, appV 6 48 [.int .i64 0, .int .i64 0, .int .i64 0, .int .i64 0, .int .i64 0, .int .i64 0] (fun b => decide ¬Bk.st X.dep 0 = b) (.sl (.hp Hx.length 0) 0 0 (some 0) 6) kv ((X.hp (Hx ++ [(0, .cells true [])])).fr f e) = some (c1, (X.hp H1).fr f e) := fun f e => a1 _ rfl _ (fun _ _ => by simp) _ rfl hhb
  have a2' : ∀ f e, appV 6 48 [.int .i64 0, .int .i64 0, .int .i64 0, .int .i64 0, .int .i64 0, .int .i64 0] (fun _ => true) c1 (.sl (.hp H1.length 0) 0 1 (some 1) 6) ((X.hp (H1 ++ [(0, .cells true (kyC k))])).fr f e) = some (c2, (X.hp H2).fr f e) := fun f e => a2 _ rfl _ (fun _ _ => rfl) _ rfl hhb
  have q2 := k2.1
  have d2 := k2.get hd (by simp)
  have hcx : (c2.hx ≤ kd) = False := by
    obtain ⟨j, hj⟩ := own_fp7 oc (by simp)
    have := hx_fp hj; have := fc j hj
    exact eq_false (by omega)
  obtain ⟨H3, hH3⟩ : ∃ H3, H2.set kd (0, SBk.cells true [.int .i64 R, .int .i64 ep, c2, wv]) = H3 := ⟨_, rfl⟩
  have l3 : H3.length = H2.length := by rw [← hH3, List.length_set]
  have k3 : Keep [kd] H2 H3 := by rw [← hH3]; exact Keep.set (by simp) _ _
  have d3 : hget H3 kd 0 = some (.cells true [.int .i64 R, .int .i64 ep, c2, wv]) := by rw [← hH3, hget_set_eq (by omega), if_pos rfl]
  have kH3 : Keep [kd] Hx H3 := (k2.weak (T := [kd]) (by simp)).trans k3
  have hkdS : ∀ j, j ∈ S → True := fun _ _ => trivial
  have w3 : LiesD wvF (Hm H3) wv WL := h.wl.keep kH3 (fun j hj hc => h.fw j hj (by simp at hc; subst hc; exact hkS))
  have hv3 : LiesD cellF (Hm H3) av l := hv.keep kH3 (fun j hj hc => fv j hj (by simp at hc; subst hc; exact hkS))
  have hq3 := kH3.1
  obtain ⟨d1, H4, dd, H5, b1, b2, od, k4, k5, fd, s3, s4, -, -⟩ := app2 wvF_even (by decide) w3 (o, av) (wv_ok hwsl) (wv_ok (l := [(o, av)]) (fun w hw => by simp at hw; subst hw; exact sav)) (wv_hxs (fun w hw => by have := hfw w hw; omega)) (by have := wv_hxs (l := [(o, av)]) (n := H3.length) (fun w hw => by simp at hw; subst hw; exact sl_hx sav hv3.fp); simpa using this) (bytes := 32) (by rw [hwl]; simp only [two48]; omega) (by rw [hwl]; simp only [two48]; omega) kd (by omega)
  have b1' : ∀ f e, appV 2 32 [.int .i64 0, .nils] (fun b => decide ¬Bk.st X.dep 1 = b) (.sl (.hp H3.length 0) 0 0 (some 0) 2) wv ((X.hp (H3 ++ [(0, .cells true [])])).fr f e) = some (d1, (X.hp H4).fr f e) := fun f e => b1 _ rfl _ (fun _ _ => by simp) _ rfl hhb
  have b2' : ∀ f e, appV 2 32 [.int .i64 0, .nils] (fun _ => true) d1 (.sl (.hp H4.length 0) 0 1 (some 1) 2) ((X.hp (H4 ++ [(0, .cells true [.int .i64 o, av])])).fr f e) = some (dd, (X.hp H5).fr f e) := fun f e => b2 _ rfl _ (fun _ _ => rfl) _ rfl hhb
  have q5 := k5.1
  have d5 := k5.get d3 (by simp)
  have hdx : (dd.hx ≤ kd) = False := by
    obtain ⟨j, hj⟩ := own_fp7 od (by simp)
    have := hx_fp hj; have := fd j hj
    exact eq_false (by omega)
  obtain ⟨H6, hH6⟩ : ∃ H6, H5.set kd (0, SBk.cells true [.int .i64 R, .int .i64 ep, c2, dd]) = H6 := ⟨_, rfl⟩
  have l6 : H6.length = H5.length := by rw [← hH6, List.length_set]
  have k6 : Keep [kd] H5 H6 := by rw [← hH6]; exact Keep.set (by simp) _ _
  have d6 : hget H6 kd 0 = some (.cells true [.int .i64 R, .int .i64 ep, c2, dd]) := by rw [← hH6, hget_set_eq (by omega), if_pos rfl]
  have k36 : Keep [kd] H3 H6 := (k5.weak (T := [kd]) (by simp)).trans k6
  have kx6 : Keep [kd] Hx H6 := kH3.trans k36
  have he2 : escMin e (some kd) = some kd := by rcases he with rfl | rfl <;> simp [escMin]
  have eK : (L ++ [(k, ((o, l) : Wy))]).map Prod.fst = L.map Prod.fst ++ [k] := by simp
  have sk := h.kl.isSl
  have sw := h.wl.isSl
  simp (maxDischargeDepth := 8) only [go_sem, rputA, hw, a1', s1.l, s1.c, s1.k, s1.o, a2', s2.l, s2.c, s2.k, s2.o, show (X.hb ≤ kd) = True from eq_true hhb, d2, hcx, he2, hH3, d3, sav.l, sav.c, sav.k, sav.o, sk.l, sk.c, sk.k, sk.o, sw.l, sw.c, sw.k, sw.o, shut_get, b1', s3.l, s3.c, s3.k, s3.o, b2', s4.l, s4.c, s4.k, s4.o, d5, hdx, hH6]
  rw [show escMin (some kd) (some kd) = some kd from by simp [escMin], escOk_some hkd, if_neg (by decide)]
  refine ⟨H6, some kd, c2, dd, WL ++ [(o, av)], rfl, ⟨d6, ?_, (od.keep k6 (fun j hj hc => by simp at hc; have := fd j hj; omega)).lies wvF_even, by rw [List.length_append, List.length_append, hwl]; rfl, ?_, ?_, ?_⟩, kx.trans kx6⟩
  · rw [eK]
    exact (oc.lies kyF_even).keep (k3.trans k36) (fun j hj hc => by simp at hc; have := fc j hj; omega)
  · intro j w q h1 h2
    rcases Nat.lt_or_ge j WL.length with hj | hj
    · rw [List.getElem?_append_left hj] at h1
      rw [List.getElem?_append_left (by omega)] at h2
      exact (h.wr j w q h1 h2).keep (kx6.weak (fun m hm _ => by simp at hm; subst hm; exact hkS)) (fun j hj _ => hj)
    · rw [List.getElem?_append_right hj] at h1
      rw [List.getElem?_append_right (by omega)] at h2
      have hz : j - WL.length = 0 := by
        rcases Nat.eq_zero_or_pos (j - WL.length) with h0 | h0
        · exact h0
        · rw [List.getElem?_eq_none (by simp; omega)] at h1; cases h1
      rw [hz] at h1
      rw [← hwl, hz] at h2
      obtain rfl := Option.some.inj h1
      obtain rfl := Option.some.inj h2
      exact ⟨rfl, hv.keep kx6 (fun j hj hc => fv j hj (by simp at hc; subst hc; exact hkS)), fv, hb⟩
  · intro j hj hc
    have := fc j hj; have := hS j hc; omega
  · intro j hj hc
    have := fd j hj; have := hS j hc; omega
theorem rput_tail {X : Mem} {H : Hp} {S : List Nat} {kd : Nat} {R ep : Int} {kv wv : SV} {WL : List Wv} {L : List (Ky × Wy)} (h : RfP H S kd R ep kv wv WL L) (hn : (L.map Prod.fst).Nodup) (hR : 1 ≤ R ∧ R ≤ 256) (hl : (L.length : Int) ≤ R) (hw : X.Wf) (hhb : X.hb ≤ kd) (hkd : kd < X.hl) (hS : ∀ j ∈ S, j < H.length) (k : Ky) (o : Int) {av : SV} {l : List (Int × Int)} (hv : LiesD cellF (Hm H) av l) (fv : ∀ j ∈ slFp av, j ∉ S) (hb : 2 * l.length * 16 ≤ two48) (hkS : kd ∈ S) :
    ∃ H' u kv' wv' WL', rputT X kd k o av H = some (.tup [], (X.hp H').es (escMin X.esc u)) ∧ RfP H' S kd R ep kv' wv' WL' (putL R L k (o, l)) ∧ Keep [kd] H H' := by
  have hd := h.hd
  have sav := hv.isSl
  have hlc := hget_lt hd
  have hol : (L.map Prod.fst).length = L.length := List.length_map _
  obtain ⟨r, hp, hr⟩ := r_place h (by omega) (X := (X.hp H).fr [.cells true (kyC k), .cells true [.int .i64 o, av]] none) (by simp (maxDischargeDepth := 8) only [go_sem]) (fr_wf (hp_wf hw) _ _) k
  unfold putL
  rcases hr.get hn with ⟨rfl, hg⟩ | ⟨i, p, rfl, hi, hLi, hg⟩
  · rw [hg, if_neg (show ¬ (none : Option Wy).isSome = true by decide)]
    by_cases hlen : (L.length : Int) = R
    · rw [if_pos hlen]
      cases L with
      | nil => exact absurd hlen (by simp; omega)
      | cons y L' =>
        have hlenq : ((L'.length + 1 : Nat) : Int) = R := by simpa using hlen
        have kl := h.kl
        have wl := h.wl
        have hwl := h.len
        have sk := kl.isSl
        have sw := wl.isSl
        have hkd1 : sliceV 6 kv (some 1) none none = some (dropV 6 1 kv) := Lies.dropS1 kl (by simp)
        have hwd1 : sliceV 2 wv (some 1) none none = some (dropV 2 1 wv) := Lies.dropS1 wl (by rw [hwl]; simp)
        have kl1 : LiesD kyF (Hm H) (dropV 6 1 kv) (L'.map Prod.fst) := LiesD.drop kyF_even kl (lo := 1) (by simp)
        have wl1 : LiesD wvF (Hm H) (dropV 2 1 wv) (WL.drop 1) := LiesD.drop wvF_even wl (lo := 1) (by rw [hwl]; simp)
        have s1 := kl1.isSl
        have s2 := wl1.isSl
        obtain ⟨H1, hH1⟩ : ∃ H1, H.set kd (0, SBk.cells true [.int .i64 R, .int .i64 ep, dropV 6 1 kv, wv]) = H1 := ⟨_, rfl⟩
        have l1 : H1.length = H.length := by rw [← hH1, List.length_set]
        have k1 : Keep [kd] H H1 := by rw [← hH1]; exact Keep.set (by simp) _ _
        have d1 : hget H1 kd 0 = some (.cells true [.int .i64 R, .int .i64 ep, dropV 6 1 kv, wv]) := by rw [← hH1, hget_set_eq (by omega), if_pos rfl]
        obtain ⟨H2, hH2⟩ : ∃ H2, H1.set kd (0, SBk.cells true [.int .i64 R, .int .i64 ep, dropV 6 1 kv, dropV 2 1 wv]) = H2 := ⟨_, rfl⟩
        have l2 : H2.length = H1.length := by rw [← hH2, List.length_set]
        have k2 : Keep [kd] H1 H2 := by rw [← hH2]; exact Keep.set (by simp) _ _
        have d2 : hget H2 kd 0 = some (.cells true [.int .i64 R, .int .i64 ep, dropV 6 1 kv, dropV 2 1 wv]) := by rw [← hH2, hget_set_eq (by omega), if_pos rfl]
        have kH2 : Keep [kd] H H2 := k1.trans k2
        have nk : ∀ {v : SV}, (∀ j ∈ slFp v, j ∉ S) → ∀ j ∈ slFp v, j ∉ [kd] := fun hf j hj hc => hf j hj (by simp at hc; subst hc; exact hkS)
        have fk1 : ∀ j ∈ slFp (dropV 6 1 kv), j ∉ S := by rw [dropV_fp']; exact h.fk
        have fw1 : ∀ j ∈ slFp (dropV 2 1 wv), j ∉ S := by rw [dropV_fp']; exact h.fw
        have h2 : RfP H2 S kd R ep (dropV 6 1 kv) (dropV 2 1 wv) (WL.drop 1) L' := by
          refine ⟨d2, kl1.keep kH2 (nk fk1), wl1.keep kH2 (nk fw1), by rw [List.length_drop, hwl]; simp, fun i w p e1 e2 => ?_, fk1, fw1⟩
          rw [List.getElem?_drop] at e1
          exact (h.wr (1 + i) w p e1 (by rw [Nat.add_comm]; exact e2)).keep (kH2.weak (fun m hm _ => by simp at hm; subst hm; exact hkS)) (fun j hj _ => hj)
        have bR : ((((L'.map Prod.fst).length + 1 : Nat) : Int) == R) = true := by rw [List.length_map, hlenq]; exact beq_self_eq_true _
        have fin : ∀ e, (e = none ∨ e = some kd) → ∃ H' u kv' wv' WL', rputA X kd k o av (dropV 6 1 kv) H2 e = some (.tup [], (X.hp H').es (escMin X.esc u)) ∧ RfP H' S kd R ep kv' wv' WL' (L' ++ [(k, (o, l))]) ∧ Keep [kd] H H' := fun e he =>
          rput_app h2 kH2 (l2.trans l1) hR (by omega) hw hhb hkd hS k o (hv.keep kH2 (nk fv)) fv hb hkS e he
        by_cases x1 : (dropV 6 1 kv).hx ≤ kd
        · by_cases x2 : (dropV 2 1 wv).hx ≤ kd
          · simp (maxDischargeDepth := 8) only [go_sem, rputT, hw, hp, show decide ((-1 : Int) ≥ 0) = false from by decide, hd, kl.len, hol, bR, shut_get, hkd1, hwd1, s1.l, s1.c, s1.k, s1.o, s2.l, s2.c, s2.k, s2.o, sk.l, sk.c, sk.k, sk.o, sw.l, sw.c, sw.k, sw.o, show (X.hb ≤ kd) = True from eq_true hhb, x1, x2, hH1, d1, hH2, d2, escMin_none]
            exact fin none (.inl rfl)
          · simp (maxDischargeDepth := 8) only [go_sem, rputT, hw, hp, show decide ((-1 : Int) ≥ 0) = false from by decide, hd, kl.len, hol, bR, shut_get, hkd1, hwd1, s1.l, s1.c, s1.k, s1.o, s2.l, s2.c, s2.k, s2.o, sk.l, sk.c, sk.k, sk.o, sw.l, sw.c, sw.k, sw.o, show (X.hb ≤ kd) = True from eq_true hhb, x1, x2, hH1, d1, hH2, d2, escMin_none]
            exact fin (some kd) (.inr rfl)
        · by_cases x2 : (dropV 2 1 wv).hx ≤ kd
          · simp (maxDischargeDepth := 8) only [go_sem, rputT, hw, hp, show decide ((-1 : Int) ≥ 0) = false from by decide, hd, kl.len, hol, bR, shut_get, hkd1, hwd1, s1.l, s1.c, s1.k, s1.o, s2.l, s2.c, s2.k, s2.o, sk.l, sk.c, sk.k, sk.o, sw.l, sw.c, sw.k, sw.o, show (X.hb ≤ kd) = True from eq_true hhb, x1, x2, hH1, d1, hH2, d2, escMin_none]
            exact fin (some kd) (.inr rfl)
          · simp (maxDischargeDepth := 8) only [go_sem, rputT, hw, hp, show decide ((-1 : Int) ≥ 0) = false from by decide, hd, kl.len, hol, bR, shut_get, hkd1, hwd1, s1.l, s1.c, s1.k, s1.o, s2.l, s2.c, s2.k, s2.o, sk.l, sk.c, sk.k, sk.o, sw.l, sw.c, sw.k, sw.o, show (X.hb ≤ kd) = True from eq_true hhb, x1, x2, hH1, d1, hH2, d2, show escMin (some kd) (some kd) = some kd from by simp [escMin]]
            exact fin (some kd) (.inr rfl)
    · rw [if_neg hlen]
      simp (maxDischargeDepth := 8) only [go_sem, rputT, hw, hp, show decide ((-1 : Int) ≥ 0) = false from by decide, hd, h.kl.len, hol, show ((L.length : Int) == R) = false from beq_eq_false_iff_ne.2 hlen, shut_get]
      exact rput_app h (Keep.refl _ _) rfl hR (by omega) hw hhb hkd hS k o hv fv hb hkS none (.inl rfl)
  · rw [hg, if_pos (show (some p).isSome = true from rfl)]
    have hwsl := h.wsl
    have hiw : i < WL.length := by rw [h.len]; exact hi
    have hwl : WL.length = L.length := h.len
    have hfw : ∀ w ∈ WL, w.2.hx ≤ H.length := fun w hw => by
      obtain ⟨j, hj⟩ := List.getElem?_of_mem hw
      have hlt : j < WL.length := (List.getElem?_eq_some_iff.1 hj).1
      have := h.wr j w (L[j]'(by rw [← h.len]; exact hlt)) hj (List.getElem?_eq_getElem (by rw [← h.len]; exact hlt))
      exact sl_hx (hwsl w hw) (this.l.fp)
    obtain ⟨nv, H3, _, _, a1, -, -, k3, -, -, s1, -, o1, f1⟩ := app2 wvF_even (by decide) h.wl (0, .nils) (wv_ok hwsl) rfl (wv_hxs hfw) (Nat.zero_le _) (bytes := 32) (by simp only [two48]; omega) (by simp only [two48]; omega) kd (by omega)
    have a1' : ∀ f e, appV 2 32 [.int .i64 0, .nils] (fun _ => true) (.sl (.hp H.length 0) 0 0 (some 0) 2) wv ((X.hp (H ++ [(0, .cells true [])])).fr f e) = some (nv, (X.hp H3).fr f e) := fun f e => a1 _ rfl _ (fun _ _ => rfl) _ rfl hhb
    have dE : hget (H ++ [(0, SBk.cells true ([] : List SV))]) kd 0 = some (.cells true [.int .i64 R, .int .i64 ep, kv, wv]) := (show Keep [] H (H ++ [(0, SBk.cells true ([] : List SV))]) from Keep.app _ _ _).get hd (by simp)
    have d3 := k3.get hd (by simp)
    have q3 := k3.1
    have sk := h.kl.isSl
    have sw := h.wl.isSl
    have hnx : (nv.hx ≤ kd) = False := by
      obtain ⟨j, hj⟩ := own_fp7 o1 (by intro h0; rw [h0] at hiw; simp at hiw)
      have := hx_fp hj; have := f1 j hj
      exact eq_false (by omega)
    obtain ⟨H4, hH4⟩ : ∃ H4, H3.set kd (0, SBk.cells true [.int .i64 R, .int .i64 ep, kv, nv]) = H4 := ⟨_, rfl⟩
    have l4 : H4.length = H3.length := by rw [← hH4, List.length_set]
    have k4 : Keep [kd] H3 H4 := by rw [← hH4]; exact Keep.set (by simp) _ _
    have d4 : hget H4 kd 0 = some (.cells true [.int .i64 R, .int .i64 ep, kv, nv]) := by rw [← hH4, hget_set_eq (by omega), if_pos rfl]
    have o4 : Own wvF H4 nv WL := o1.keep k4 (fun j hj hc => by simp at hc; have := f1 j hj; omega)
    obtain ⟨H5, st5, o5, k5, n5⟩ := storeP wvF_even (by decide) o4 hiw (o, av) (wv_ok (l := [(o, av)]) (fun w hw => by simp at hw; subst hw; exact sav)) (fun j hj => by
      have h1 := f1 j hj
      have h2 : SV.hxs (wvF.enc (o, av)) ≤ H.length := by have := wv_hxs (l := [(o, av)]) (n := H.length) (fun w hw => by simp at hw; subst hw; exact sl_hx sav hv.fp); simpa using this
      omega) kd (fun j hj => by have := f1 j hj; omega)
    have st5' : ∀ f e, ((X.hp H4).fr f e).store (.hp (slN nv) (slW nv)) (slO nv + i * 2) [.int .i64 o, av] = some ((X.hp H5).fr f e) := fun f e => st5 _ rfl hhb
    have kH4 : Keep [kd] H H4 := (k3.weak (T := [kd]) (by simp)).trans k4
    have kH5 : Keep [kd] H H5 := kH4.trans' k5 (fun m hm hl => by have := f1 m hm; omega)
    have i4 := LiesD.iaddrWv (o4.lies wvF_even) hiw
    simp (maxDischargeDepth := 8) only [go_sem, rputT, hw, hp, show decide ((i : Int) ≥ 0) = true from decide_eq_true (by omega), hd, dE, a1', s1.l, s1.c, s1.k, s1.o, show (X.hb ≤ kd) = True from eq_true hhb, d3, hnx, hH4, d4, i4, sav.l, sav.c, sav.k, sav.o, st5', shut_get]
    rw [escOk_some hkd, if_neg (by decide)]
    have eL : alSet k ((o, l) : Wy) L = L.set i (k, (o, l)) := alSet_at hn hLi
    have eK : (L.set i (k, ((o, l) : Wy))).map Prod.fst = L.map Prod.fst := by
      rw [List.map_set]
      apply List.ext_getElem?
      intro j
      rw [List.getElem?_set]
      by_cases e : i = j
      · subst e; rw [if_pos rfl, if_pos (by rw [List.length_map]; exact hi), List.getElem?_map, hLi]; rfl
      · rw [if_neg e]
    refine ⟨H5, some kd, kv, nv, WL.set i (o, av), rfl, ⟨?_, ?_, o5.lies wvF_even, ?_, ?_, ?_, ?_⟩, kH5⟩
    · exact k5.get d4 (fun hc => by have := f1 _ hc; omega)
    · rw [eL, eK]; exact h.kl.keep kH5 (fun j hj hc => h.fk j hj (by simp at hc; subst hc; exact hkS))
    · rw [eL, List.length_set, List.length_set]; exact h.len
    · rw [eL]
      intro j w q h1 h2
      rw [List.getElem?_set] at h1 h2
      by_cases e : i = j
      · rw [if_pos e, if_pos (by first | exact hiw | omega)] at h1
        rw [if_pos e, if_pos (by first | exact hi | omega)] at h2
        obtain rfl := Option.some.inj h1
        obtain rfl := Option.some.inj h2
        exact ⟨rfl, hv.keep kH5 (fun j hj hc => fv j hj (by simp at hc; subst hc; exact hkS)), fv, hb⟩
      · rw [if_neg e] at h1 h2
        exact (h.wr j w q h1 h2).keep (kH5.weak (fun m hm _ => by simp at hm; subst hm; exact hkS)) (fun j hj _ => hj)
    · exact h.fk
    · intro j hj hc
      have := f1 j hj; have := hS j hc; omega
theorem cells_app {Hx : Hp} {v : SV} {l : List (Int × Int)} (hp : LiesD cellF (Hm Hx) v l) (hb : 2 * l.length * 16 ≤ two48) :
    ∃ v' H', (∀ (X : Mem) f e, X.hb ≤ Hx.length → appV 2 16 [.int .i64 0, .int .i64 0] (fun _ => true) (.sl (.hp Hx.length 0) 0 0 (some 0) 2) v ((X.hp (Hx ++ [(0, .cells true [])])).fr f e) = some (v', (X.hp H').fr f e)) ∧ Own cellF H' v' l ∧ Keep [] Hx H' ∧ (∀ i ∈ slFp v', Hx.length ≤ i) := by
  have own0 : Own cellF (Hx ++ [(0, .cells true [])]) (.sl (.hp Hx.length 0) 0 0 (some 0) 2) [] := own_new cellF_even Hx [] (some 0)
  have hp' : LiesD cellF (Hm (Hx ++ [(0, .cells true [])])) v l := hp.keep (Keep.app [] _ _) (by simp)
  obtain ⟨v', H', ha, o1, o2, o3, o5⟩ := app_ownP cellF_even (by decide) rfl (cellF_ok _) (fun _ _ => by rw [cell_hxs]; omega) own0 hp' (bytes := 16) (by simpa using hb) (by simp only [two48] at *; simp; omega) Hx.length (fun i hi => by simp [slFp] at hi; omega)
  refine ⟨v', H', fun X f e hX => ha _ rfl (fun _ => true) rfl _ rfl hX, by simpa using o1, (Keep.app [] _ _).trans' o2 (by simp [slFp]), fun i hi => ?_⟩
  rcases o3 i hi with h | h
  · simp [slFp] at h; omega
  · simp at h; omega
theorem r_ref16_Put {X : Mem} {S : List Nat} {kd : Nat} {R ep : Int} {kv wv : SV} {WL : List Wv} {L : List (Ky × Wy)} (h : RfP X.heap S kd R ep kv wv WL L) (hn : (L.map Prod.fst).Nodup) (hR : 1 ≤ R ∧ R ≤ 256) (hl : (L.length : Int) ≤ R) (hw : X.Wf) (hhb : X.hb ≤ kd) (hS : ∀ j ∈ S, j < X.heap.length) (k : Ky) (e o : Int) {v : SV} {l : List (Int × Int)} (hv : LiesD cellF (Hm X.heap) v l) (fv : ∀ j ∈ slFp v, j ∉ S) (hb : 2 * l.length * 16 ≤ two48) (hkS : kd ∈ S) :
    ∃ H' u kv' wv' WL', RF tb f_ref16_Put [.ptr (.hp kd 0) 0, kyV k, .int .i64 e, .agg [.int .i64 o, v]] X = some (.tup [], (X.hp H').es (escMin X.esc u)) ∧ RfP H' S kd R e kv' wv' WL' (putL R (if e = ep then L else []) k (o, l)) ∧ Keep [kd] X.heap H' := by
  have hd := h.hd
  have sv := hv.isSl
  rw [RF_go t_ref16_Put _ _ rfl, push_hp]
  generalize hH : X.heap = H at *
  have hHl : X.hl = H.length := by rw [← hH]; rfl
  have hlc := hget_lt hd
  have sk := h.kl.isSl
  have sw := h.wl.isSl
  by_cases he : e = ep
  · rw [if_pos he]
    subst he
    obtain ⟨v', H1, ap, o1, k1, f1⟩ := cells_app hv hb
    have ap' := fun f e => ap X f e (by omega)
    have s1 := o1.isSl cellF_even
    have fv' : ∀ j ∈ slFp v', j ∉ S := fun j hj hc => by have := f1 j hj; have := hS j hc; omega
    have h1 : RfP H1 S kd R e kv wv WL L := h.keep k1 (by simp) (by simp) (fun j hj _ => hj)
    simp (maxDischargeDepth := 8) only [go_sem, s_ref16_Put, hw, hH, hd, show (e != e) = false from by simp, sv.l, sv.c, sv.k, sv.o, ap', s1.l, s1.c, s1.k, s1.o]
    obtain ⟨H', u, kv', wv', WL', r1, r2, r3⟩ := rput_tail h1 hn hR hl hw hhb (by omega) (fun j hj => by have := hS j hj; have := k1.1; omega) k o (o1.lies cellF_even) fv' hb hkS
    exact ⟨H', u, kv', wv', WL', r1, r2, (k1.weak (T := [kd]) (by simp)).trans r3⟩
  · rw [if_neg he]
    obtain ⟨Ha, hHa⟩ : ∃ Ha, H.set kd (0, SBk.cells true [.int .i64 R, .int .i64 e, kv, wv]) = Ha := ⟨_, rfl⟩
    have la : Ha.length = H.length := by rw [← hHa, List.length_set]
    have ka : Keep [kd] H Ha := by rw [← hHa]; exact Keep.set (by simp) _ _
    have da : hget Ha kd 0 = some (.cells true [.int .i64 R, .int .i64 e, kv, wv]) := by rw [← hHa, hget_set_eq (by omega), if_pos rfl]
    obtain ⟨Hb, hHb⟩ : ∃ Hb, Ha.set kd (0, SBk.cells true [.int .i64 R, .int .i64 e, .nils, wv]) = Hb := ⟨_, rfl⟩
    have lb : Hb.length = Ha.length := by rw [← hHb, List.length_set]
    have kb : Keep [kd] Ha Hb := by rw [← hHb]; exact Keep.set (by simp) _ _
    have db : hget Hb kd 0 = some (.cells true [.int .i64 R, .int .i64 e, .nils, wv]) := by rw [← hHb, hget_set_eq (by omega), if_pos rfl]
    obtain ⟨Hc, hHc⟩ : ∃ Hc, Hb.set kd (0, SBk.cells true [.int .i64 R, .int .i64 e, .nils, .nils]) = Hc := ⟨_, rfl⟩
    have lc : Hc.length = Hb.length := by rw [← hHc, List.length_set]
    have kc : Keep [kd] Hb Hc := by rw [← hHc]; exact Keep.set (by simp) _ _
    have dc : hget Hc kd 0 = some (.cells true [.int .i64 R, .int .i64 e, .nils, .nils]) := by rw [← hHc, hget_set_eq (by omega), if_pos rfl]
    have kHc : Keep [kd] H Hc := (ka.trans kb).trans kc
    obtain ⟨v', H1, ap, o1, k1, f1⟩ := cells_app (hv.keep kHc (fun j hj hc => fv j hj (by simp at hc; subst hc; exact hkS))) hb
    have ap' := fun f e => ap X f e (by omega)
    have s1 := o1.isSl cellF_even
    have fv' : ∀ j ∈ slFp v', j ∉ S := fun j hj hc => by have := f1 j hj; have := hS j hc; omega
    have h1 : RfP H1 S kd R e .nils .nils [] [] := ⟨k1.get dc (by simp), LiesD.nil _ _, LiesD.nil _ _, rfl, fun i w p hi _ => by simp at hi, by simp [slFp], by simp [slFp]⟩
    simp (maxDischargeDepth := 8) only [go_sem, s_ref16_Put, hw, hH, hd, show (e != ep) = true from by simp [he], sv.l, sv.c, sv.k, sv.o, sk.l, sk.c, sk.k, sk.o, sw.l, sw.c, sw.k, sw.o, show (X.hb ≤ kd) = True from eq_true hhb, hHa, da, hHb, db, hHc, dc, ap', s1.l, s1.c, s1.k, s1.o]
    obtain ⟨H', u, kv', wv', WL', r1, r2, r3⟩ := rput_tail h1 (by simp) hR (by simp; omega) hw hhb (by omega) (fun j hj => by have := hS j hj; have := k1.1; omega) k o (o1.lies cellF_even) fv' hb hkS
    exact ⟨H', u, kv', wv', WL', r1, r2, (kHc.trans (k1.weak (T := [kd]) (by simp))).trans r3⟩
theorem rput_of {X : Mem} {S : List Nat} {kd : Nat} {R ep : Int} {kv wv : SV} {WL : List Wv} {L : List (Ky × Wy)} {k : Ky} {e o : Int} {v : SV} {z : Option (SV × Mem)} (hz : RF tb f_ref16_Put [.ptr (.hp kd 0) 0, kyV k, .int .i64 e, .agg [.int .i64 o, v]] X = z) (h : RfP X.heap S kd R ep kv wv WL L) (hn : (L.map Prod.fst).Nodup) (hR : 1 ≤ R ∧ R ≤ 256) (hl : (L.length : Int) ≤ R) (hw : X.Wf) (hhb : X.hb ≤ kd) (hS : ∀ j ∈ S, j < X.heap.length) {l : List (Int × Int)} (hv : LiesD cellF (Hm X.heap) v l) (fv : ∀ j ∈ slFp v, j ∉ S) (hb : 2 * l.length * 16 ≤ two48) (hkS : kd ∈ S) :
    ∃ H' u kv' wv' WL', z = some (.tup [], (X.hp H').es (escMin X.esc u)) ∧ RfP H' S kd R e kv' wv' WL' (putL R (if e = ep then L else []) k (o, l)) ∧ Keep [kd] X.heap H' := by
  subst hz; exact r_ref16_Put h hn hR hl hw hhb hS k e o hv fv hb hkS
theorem r_ref16_New_no (X : Mem) (hw : X.Wf) (n : Int) (h : ¬ (1 ≤ n ∧ n ≤ 256)) : RF tb f_ref16_New [.int .i64 n] X = some (.tup [.nilp, .int .i64 1], X) := by
  rw [RF_go t_ref16_New _ _ rfl]
  by_cases h1 : n < 1
  · simp (maxDischargeDepth := 8) only [go_sem, s_ref16_New, hw, show decide (n < 1) = true from decide_eq_true h1]
  · simp (maxDischargeDepth := 8) only [go_sem, s_ref16_New, hw, show decide (n < 1) = false from decide_eq_false h1, show decide (n > 256) = true from decide_eq_true (by omega)]
theorem r_ref16_New (X : Mem) (hw : X.Wf) (n : Int) (h1 : 1 ≤ n ∧ n ≤ 256) : RF tb f_ref16_New [.int .i64 n] X = some (.tup [.ptr (.hp X.heap.length 0) 0, .int .i64 0], X.hp (X.heap ++ [(0, .cells true [.int .i64 n, .int .i64 0, .nils, .nils])])) := by
  rw [RF_go t_ref16_New _ _ rfl, push_hp]
  simp (maxDischargeDepth := 8) only [go_sem, s_ref16_New, hw, show decide (n < 1) = false from decide_eq_false (by omega), show decide (n > 256) = false from decide_eq_false (by omega)]
  try rw [if_neg (by show ¬ X.heap.length + 1 ≤ X.heap.length; omega)]
  try rfl
theorem r_cellsC {m : Mem} {p q : SV} {l : List (Int × Int)} (hp : LiesD cellF m p l) (hq : LiesD cellF m q l) (hb : 2 * l.length * 16 ≤ two48) {X : Mem} (hX : HpSub m X) (hw : X.Wf) : RF tb f_ref10_Cells [p, q] X = some (.bool true, X) := by
  rw [RF_go t_ref10_Cells _ _ rfl]
  simp (maxDischargeDepth := 8) only [go_sem, s_ref10_Cells, hw, hp.len, hq.len, show ((l.length : Int) != (l.length : Int)) = false from by simp]
  rw [KL_keep _ _ _ (by simp (maxDischargeDepth := 8) only [go_sem, hp.lv, hq.lv])]
  simp (maxDischargeDepth := 8) only [go_sem]
  refine KL_indE (α := Nat) (fun i => l.length - i) (fun i => [(0, p), (1, q), (5, .int .i64 (i : Int))]) (fun i => X.fr [] none) (fun i => i ≤ l.length) ?_ 0 (Nat.zero_le _)
  intro i hi ih
  simp (maxDischargeDepth := 8) only [go_sem, hw, hp.len, hp.lv, hq.lv]
  by_cases hlt : i < l.length
  · have hel : l[i]? = some l[i] := List.getElem?_eq_getElem hlt
    simp (maxDischargeDepth := 8) only [go_sem, show decide ((i : Int) < (l.length : Int)) = true from decide_eq_true (by omega), hw, hp.iaddrC hlt, hp.loadC hel, hq.iaddrC hlt, hq.loadC hel, hX, wrap_succ (show i ≤ 4611686018427387903 by simp only [two48] at hb; omega)]
    rw [KL_keep _ _ _ (by simp (maxDischargeDepth := 8) only [go_sem, hp.lv, hq.lv])]
    simp (maxDischargeDepth := 8) only [go_sem]
    exact ih (i + 1) (by omega) (by omega)
  · obtain rfl : i = l.length := by omega
    simp (maxDischargeDepth := 8) only [go_sem, show decide (((l.length : Nat) : Int) < (l.length : Int)) = false from decide_eq_false (by omega), hw]
theorem r_sameC {m : Mem} {p q : SV} {l : List (Int × Int)} (hp : LiesD cellF m p l) (hq : LiesD cellF m q l) (hb : 2 * l.length * 16 ≤ two48) (o : Int) {X : Mem} (hX : HpSub m X) (hw : X.Wf) : RF tb f_ref10_Same [.agg [.int .i64 o, p], .agg [.int .i64 o, q]] X = some (.bool true, X) := by
  have s1 := hp.isSl
  have s2 := hq.isSl
  rw [RF_go t_ref10_Same _ _ rfl]
  simp (maxDischargeDepth := 8) only [go_sem, s_ref10_Same, hw, s1.l, s1.c, s1.k, s1.o, s2.l, s2.c, s2.k, s2.o, show (o == o) = true from by simp, r_cellsC hp hq hb, hX]
theorem r_cache_All {X : Mem} (hw : X.Wf) (k : Nat) : RF tb f_cache_Cache_All [.ptr (.hp k 0) 0] X = some (.fn f_cache_Cache_All_1 [] [.ptr (.hp X.heap.length 0) 0], X.hp (X.heap ++ [(0, .cells true [.ptr (.hp k 0) 0])])) := by
  rw [RF_go t_cache_Cache_All _ _ rfl, push_hp]
  simp (maxDischargeDepth := 8) only [go_sem, s_cache_Cache_All, hw]
  try rw [if_neg (by show ¬ X.heap.length + 1 ≤ X.heap.length; omega)]
  try rfl
theorem r_cache_All_1 {D i kb kc km : Nat} {R ep : Int} {Mm : List (Ky × Wv)} {ov : SV} {L : List (Ky × Wy)} {S : List Nat} (fs : List (List SBk)) (e : Option Nat) {α : Type} (M : α → Mem) (I : Nat → α → Option Nat → Prop)
    (base : ∀ q a u, I q a u → D < (M a).dep ∧ (M a).Wf ∧ hget (M a).heap kb 0 = some (.cells true [.ptr (.hp kc 0) 0]) ∧ CaAt (M a).heap kc km R ep Mm ov (L.map Prod.fst) ∧ MapR (M a).heap S Mm L)
    (hlen : L.length ≤ 4000000) (hnd : (L.map Prod.fst).Nodup)
    (hstep : ∀ q a u k p, I q a u → L[q]? = some (k, p) → 2 * p.2.length * 16 ≤ two48 → ∀ v' H1, Own cellF H1 v' p.2 → Keep [] (M a).heap H1 → (∀ j ∈ slFp v', (M a).heap.length ≤ j) → ∀ g, ∃ b u', RV tb (.yld (.st D i)) [kyV k, .agg [.int .i64 p.1, v']] ((((M a).hp H1).frs fs e).fr g u) = some (.bool true, ((M b).frs fs e).fr g u') ∧ I (q + 1) b u')
    (a0 : α) (h0 : I 0 a0 none) :
    ∃ b u, RF tb f_cache_Cache_All_1 [.yld (.st D i), .ptr (.hp kb 0) 0] ((M a0).frs fs e) = some (.tup [], ((M b).hp (if escOk (M a0).hl u = true then (M b).heap.take (M a0).hl else (M b).heap)).frs fs (escMin e u)) ∧ I L.length b u := by
  have ldB : ∀ q a u, I q a u → (M a).load (.hp kb 0) 0 none = some (.ptr (.hp kc 0) 0) := fun q a u h => by
    obtain ⟨_, _, hb, _⟩ := base q a u h
    rw [load_get]; show (match hget (M a).heap kb 0 with | some (.cells _ c) => partv c 0 none | _ => none) = _; rw [hb]; rfl
  have ldC : ∀ q a u, I q a u → ∀ off n, (M a).load (.hp kc 0) off n = partv [.int .i64 R, .int .i64 ep, .map (.hp km 0), ov] off n := fun q a u h off n => by
    obtain ⟨_, _, _, hc, _⟩ := base q a u h
    rw [load_get]; show (match hget (M a).heap kc 0 with | some (.cells _ c) => partv c off n | _ => none) = _; rw [hc.hd]
  have gtM : ∀ q a u, I q a u → (M a).get (.hp km 0) = some (.map (alV kyV wvV Mm)) := fun q a u h => by
    obtain ⟨_, _, _, hc, _⟩ := base q a u h
    exact hc.mp
  have hol : (L.map Prod.fst).length = L.length := List.length_map _
  rw [RF_go t_cache_Cache_All_1 _ _ rfl, push_fr]
  obtain ⟨hD, hw, hb0, hc0, -⟩ := base 0 a0 none h0
  have l0 := hc0.od.lies kyF_even
  have s0 := hc0.od.isSl kyF_even
  have hD2 : D < fs.length + (M a0).dep := by omega
  simp (maxDischargeDepth := 8) only [go_sem, s_cache_Cache_All_1, hw, ldB 0 a0 none h0, ldC 0 a0 none h0, l0.len, hol, s0.l, s0.c, s0.k, s0.o, hD2]
  rw [KL_keep _ _ _ (by simp (maxDischargeDepth := 8) only [go_sem, s0.l, hD2])]
  simp (maxDischargeDepth := 8) only [go_sem]
  refine KL_ind (R := fun z => ∃ b u, fin [] ((M a0).frs fs e) z = some (.tup [], ((M b).hp (if escOk (M a0).hl u = true then (M b).heap.take (M a0).hl else (M b).heap)).frs fs (escMin e u)) ∧ I L.length b u) (α := Nat × α × Option Nat) (fun q => L.length - q.1)
    (fun q => [(0, .yld (.st D i)), (1, .ptr (.hp kb 0) 0), (10, ov), (11, .int .i64 (L.length : Int)), (12, .int .i64 (q.1 : Int))]) (fun q => ((M q.2.1).frs fs e).fr [] q.2.2) (fun q => q.1 ≤ L.length ∧ I q.1 q.2.1 q.2.2) ?_ (0, a0, none) ⟨Nat.zero_le _, h0⟩
  rintro ⟨q, a, u⟩ ⟨hq, hI⟩ ih
  dsimp only at hq hI ⊢
  obtain ⟨hDa, hwa, hb, hc, hmr⟩ := base q a u hI
  have hD3 : D < fs.length + (M a).dep := by omega
  have hw2 : (((M a).frs fs e).fr [] u).Wf := fr_wf (frs_wf hwa _ _) _ _
  have la := hc.od.lies kyF_even
  by_cases hlt : q < L.length
  · obtain ⟨⟨k, p⟩, hk⟩ : ∃ x, L[q]? = some x := ⟨_, List.getElem?_eq_getElem hlt⟩
    have hk1 : (L.map Prod.fst)[q]? = some k := by rw [List.getElem?_map, hk]; rfl
    have ia := LiesD.iaddrKy la (i := q) (by rw [hol]; exact hlt)
    have ld := fun {Y : Mem} (hY : HpSub (Hm (M a).heap) Y) => LiesD.loadKy la hk1 hY
    have hg : alGet k L = some p := alGet_at hnd hk
    have hmk := hmr k
    rw [hg] at hmk
    cases hM : alGet k Mm with
    | none => rw [hM] at hmk; exact hmk.elim
    | some w =>
      rw [hM] at hmk
      obtain ⟨wo, wv⟩ := w
      have e1 : wo = p.1 := hmk.o
      subst e1
      have as : assoc (.agg [.int .i64 k.1, .int .i64 k.2.1, .int .i64 k.2.2.1, .int .i64 k.2.2.2.1, .int .i64 k.2.2.2.2.1, .int .i64 k.2.2.2.2.2]) (alV kyV wvV Mm) = some (some (wvV (p.1, wv))) := by
        have := assoc_ky wvV k Mm
        rw [hM] at this
        exact this
      have sw := hmk.l.isSl
      simp (maxDischargeDepth := 8) only [go_sem, hw, hwa, s0.l, s0.c, s0.k, s0.o, hD3, show decide ((q : Int) < (L.length : Int)) = true from decide_eq_true (by omega), ia, ld, ldB q a u hI, ldC q a u hI, gtM q a u hI, shut_get, as, Option.getD_some, sw.l, sw.c, sw.k, sw.o]
      generalize hz : RF tb f_cache_own _ _ = z
      obtain ⟨v', H1, rfl, q2, q3, q4⟩ := own_of hz hmk.l hmk.b (by simp (maxDischargeDepth := 8) only [go_sem, hwa]) (by simp (maxDischargeDepth := 8) only [go_sem]; exact Nat.le_refl _)
      have s1 := q2.isSl cellF_even
      obtain ⟨b, u', hy, hI'⟩ := hstep q a u k p hI hk hmk.b v' H1 q2 q3 q4 [.cells true (kyC k)]
      simp (maxDischargeDepth := 8) only [go_sem, hwa, s1.l, s1.c, s1.k, s1.o, hy, wrap_succ (show q ≤ 4611686018427387903 by omega)]
      have hD4 := (base _ b _ hI').1
      have hD5 : D < fs.length + (M b).dep := by omega
      rw [KL_keep _ _ _ (by simp (maxDischargeDepth := 8) only [go_sem, s0.l, hD5])]
      simp (maxDischargeDepth := 8) only [go_sem]
      exact ih (q + 1, b, u') ⟨by dsimp only; omega, hI'⟩ (by dsimp only; omega)
  · obtain rfl : q = L.length := by omega
    simp (maxDischargeDepth := 8) only [go_sem, hwa, s0.l, hD3, show decide ((L.length : Int) < (L.length : Int)) = false from decide_eq_false (by omega), back_frsD]
    exact ⟨a, u, rfl, hI⟩
/-- An act: asked for or put, the key, the epoch, the way's outcome, its cells (as they lie there). -/
abbrev Ax := Bool × Ky × Int × Int × SV
def actF : Fl Ax := ⟨10, fun a => .bool a.1 :: (kyC a.2.1 ++ [.int .i64 a.2.2.1, .int .i64 a.2.2.2.1, a.2.2.2.2])⟩
theorem actF_even : actF.Even := ⟨fun _ => rfl⟩
section
variable {m : Mem} {v : SV} {l : List Ax} {i : Nat} {a : Ax}
theorem LiesD.iaddrA (h : LiesD actF m v l) (hi : i < l.length) (k : IntKind) (m' : Mem) : iaddrV 10 v (.int k (i : Int)) m' = some (.ptr (.hp (slN v) (slW v)) (slO v + i * 10), m') := Lies.iaddr h hi k m'
theorem act_row (h : LiesD actF m v l) (hi : l[i]? = some a) : (l.flatMap actF.enc).drop (i * 10) = actF.enc a ++ (l.drop (i + 1)).flatMap actF.enc := by
  have hlt : i < l.length := (List.getElem?_eq_some_iff.1 hi).1
  have e : l.drop i = a :: l.drop (i + 1) := by
    rw [List.drop_eq_getElem_cons hlt, (List.getElem?_eq_some_iff.1 hi).2]
  have := flat_drop actF_even l i
  rw [show i * 10 = i * actF.sz from rfl, this, e, List.flatMap_cons]
theorem LiesD.loadA0 (h : LiesD actF m v l) (hi : l[i]? = some a) {X : Mem} (hX : HpSub m X) : X.load (.hp (slN v) (slW v)) (slO v + i * 10) none = some (.bool a.1) := by
  have hlt : i < l.length := (List.getElem?_eq_some_iff.1 hi).1
  have := LiesD.load1 actF_even (h.sub hX) hi (j := 0) (by decide)
  exact this
theorem LiesD.loadA7 (h : LiesD actF m v l) (hi : l[i]? = some a) {X : Mem} (hX : HpSub m X) : X.load (.hp (slN v) (slW v)) (slO v + i * 10 + 7) none = some (.int .i64 a.2.2.1) := LiesD.load1 actF_even (h.sub hX) hi (j := 7) (by decide)
theorem LiesD.loadA1 (h : LiesD actF m v l) (hi : l[i]? = some a) {X : Mem} (hX : HpSub m X) : X.load (.hp (slN v) (slW v)) (slO v + i * 10 + 1) (some 6) = some (kyV a.2.1) := by
  have hlt : i < l.length := (List.getElem?_eq_some_iff.1 hi).1
  have h2 : LiesD actF X v l := h.sub hX
  have := Lies.loadN h2 (o := i * 10 + 1) (k := 6) (by decide) (by show i * 10 + 1 + 6 ≤ l.length * 10; omega)
  rw [Nat.add_assoc, this, ← List.drop_drop, act_row h hi]
  rfl
theorem LiesD.loadA8 (h : LiesD actF m v l) (hi : l[i]? = some a) {X : Mem} (hX : HpSub m X) : X.load (.hp (slN v) (slW v)) (slO v + i * 10 + 8) (some 2) = some (.agg [.int .i64 a.2.2.2.1, a.2.2.2.2]) := by
  have hlt : i < l.length := (List.getElem?_eq_some_iff.1 hi).1
  have h2 : LiesD actF X v l := h.sub hX
  have := Lies.loadN h2 (o := i * 10 + 8) (k := 2) (by decide) (by show i * 10 + 8 + 2 ≤ l.length * 10; omega)
  rw [Nat.add_assoc, this, ← List.drop_drop, act_row h hi]
  rfl
end
theorem cnew_of {X : Mem} {n : Int} {z : Option (SV × Mem)} (hz : RF tb f_cache_New [.int .i64 n] X = z) (hw : X.Wf) (h1 : 1 ≤ n ∧ n ≤ 256) : ∃ H' kc km, z = some (.tup [.ptr (.hp kc 0) 0, .int .i64 0], X.hp H') ∧ CaAt H' kc km n 0 [] .nils [] ∧ Keep [] X.heap H' ∧ km = X.heap.length ∧ kc = X.heap.length + 1 := by
  subst hz; exact r_cache_NewP X hw n h1
theorem getP_self (R ep : Int) (k : Ky) (w : Wy) : getP ep (putL R [] k w) k ep = some w := by
  unfold getP putL
  rw [if_pos rfl]
  simp only [alGet, Option.isSome_none, Bool.false_eq_true, if_false]
  split <;> simp [alGet]
theorem r_law16_awake (X : Mem) (hw : X.Wf) (hhb : X.hb ≤ X.hl) : ∃ H' u, RF tb f_law16_awake [] X = some (.bool true, (X.hp H').es (escMin X.esc u)) ∧ Keep [] X.heap H' := by
  rw [RF_go t_law16_awake _ _ rfl, push_hp]
  generalize hH : X.heap = H
  have hHl : X.hl = H.length := by rw [← hH]; rfl
  simp (maxDischargeDepth := 8) only [go_sem, s_law16_awake, hw, hH]
  generalize hz : RF tb f_cache_New _ _ = z
  obtain ⟨H1, kc, km, rfl, c1, k1, e1, e2⟩ := cnew_of hz (by simp (maxDischargeDepth := 8) only [go_sem, hw]) (by decide)
  change Keep [] H H1 at k1
  change km = H.length at e1
  change kc = H.length + 1 at e2
  have hk1 := hget_lt c1.hd
  obtain ⟨H2, hH2⟩ : ∃ H2, H1 ++ [(0, SBk.cells true [.int .i64 5, .int .i64 0])] = H2 := ⟨_, rfl⟩
  have l2 : H2.length = H1.length + 1 := by rw [← hH2, List.length_append]; rfl
  have k2 : Keep [] H1 H2 := by rw [← hH2]; exact Keep.app _ _ _
  have ow : Own cellF H2 (.sl (.hp H1.length 0) 0 1 (some 1) 2) [((5 : Int), (0 : Int))] := by rw [← hH2]; exact own_new cellF_even H1 [((5 : Int), (0 : Int))] (some 1)
  have cp : CaP H1.length H2 kc km 2 0 [] .nils [] := ⟨⟨k2.get c1.hd (by simp), k2.get c1.mp (by simp), Own.nil _⟩, by simp, by simp, by omega, by simp [slFp], fun q => trivial, by simp, fun q w h => (by cases h), by simp [slFp], by omega⟩
  simp (maxDischargeDepth := 8) only [go_sem, hw, hH2]
  generalize hz : RF tb f_cache_Cache_Put _ _ = z
  obtain ⟨H3, u3, M3, ov3, rfl, c3, k3, f3⟩ := cput_of (k := (0, 0, 0, 0, 0, 0)) (e := 3) (o := 1) hz cp (by simp (maxDischargeDepth := 8) only [go_sem, hw]) (by show X.hb ≤ km; omega) (by decide) (ow.lies cellF_even) (fun j hj hc => by simp [slFp] at hj hc; omega) (by decide)
  change Keep _ H2 H3 at k3
  have q3 := k3.1
  rw [if_neg (by decide)] at c3
  generalize hL3 : putL 2 [] (0, 0, 0, 0, 0, 0) (1, [((5 : Int), (0 : Int))]) = L3 at c3
  have g3 : getP 3 L3 (0, 0, 0, 0, 0, 0) 3 = some (1, [((5 : Int), (0 : Int))]) := by rw [← hL3]; exact getP_self _ _ _ _
  have g2 : getP 3 L3 (0, 0, 0, 0, 0, 0) 2 = none := if_neg (by decide)
  simp (maxDischargeDepth := 8) only [go_sem, hw]
  generalize hz : RF tb f_cache_Cache_Get _ _ = z
  obtain ⟨v4, H4, rfl, o4, k4, f4⟩ := cget_of (k := (0, 0, 0, 0, 0, 0)) (e := 3) hz c3.at_ c3.mr (by simp (maxDischargeDepth := 8) only [go_sem, hw]) (by show X.hb ≤ H3.length; have := k1.1; omega)
  change Keep [] H3 H4 at k4
  rw [g3] at o4 ⊢
  simp only [Option.getD_some, Option.isSome_some] at o4 ⊢
  have s4 := o4.isSl cellF_even
  have c4 : CaAt H4 kc km 2 3 M3 ov3 (L3.map Prod.fst) := ⟨k4.get c3.at_.hd (by simp), k4.get c3.at_.mp (by simp), c3.at_.od.keep k4 (by simp)⟩
  have mr4 := c3.mr.keep (k4.weak (T := km :: kc :: slFp ov3) (by simp)) (T := km :: kc :: slFp ov3) (fun j hj _ => hj)
  simp (maxDischargeDepth := 8) only [go_sem, hw, s4.l, s4.c, s4.k, s4.o]
  generalize hz : RF tb f_cache_Cache_Get _ _ = z
  obtain ⟨v5, H5, rfl, o5, k5, f5⟩ := cget_of (k := (0, 0, 0, 0, 0, 0)) (e := 2) hz c4 mr4 (by simp (maxDischargeDepth := 8) only [go_sem, hw]) (by show X.hb ≤ H4.length; have := k1.1; have := k4.1; omega)
  change Keep [] H4 H5 at k5
  rw [g2] at o5 ⊢
  simp only [Option.getD_none, Option.isSome_none] at o5 ⊢
  have s5 := o5.isSl cellF_even
  have l4 := (o4.lies cellF_even).keep k5 (by simp)
  have a4 := l4.iaddrC0 (by simp)
  have d4 : ∀ {Y : Mem}, HpSub (Hm H5) Y → Y.load (.hp (slN v4) (slW v4)) (slO v4) none = some (.int .i64 5) := fun hY => by
    have := LiesD.load1 cellF_even (l4.sub hY) (i := 0) (j := 0) (a := (5, 0)) rfl (by decide)
    rw [show slO v4 + 0 * cellF.sz + 0 = slO v4 by simp] at this
    exact this
  simp (maxDischargeDepth := 8) only [go_sem, hw, s4.l, s4.c, s4.k, s4.o, s5.l, s5.c, s5.k, s5.o, l4.len, show ((([((5 : Int), (0 : Int))]).length : Int) == 1) = true from rfl, a4, d4, show ((5 : Int) == 5) = true from rfl]
  have kk : Keep [] H H5 := ((((k1.trans k2).trans' k3 (fun n hn hl => by simp [slFp] at hn; omega)).trans k4).trans k5)
  exact ⟨_, _, rfl, by rw [← hH] at kk ⊢; exact kk.back0⟩
theorem aw16 {X : Mem} {z : Option (SV × Mem)} (hz : RF tb f_law16_awake [] X = z) (hw : X.Wf) (hhb : X.hb ≤ X.hl) : ∃ H' u, z = some (.bool true, (X.hp H').es (escMin X.esc u)) ∧ Keep [] X.heap H' := by
  rw [← hz]; exact r_law16_awake X hw hhb
theorem CaP.keep {B : Nat} {H H' : Hp} {kc km kd : Nat} {R ep : Int} {M : List (Ky × Wv)} {ov : SV} {L : List (Ky × Wy)} (h : CaP B H kc km R ep M ov L) (k : Keep [kd] H H') (h1 : kc < kd) (h2 : kd < B) : CaP B H' kc km R ep M ov L := by
  have hlt := h.lt
  refine ⟨⟨k.get h.at_.hd (by simp; omega), k.get h.at_.mp (by simp; omega), h.at_.od.keep k (fun j hj hc => by simp at hc; have := h.ob j hj; omega)⟩, h.nd, h.nl, h.lt, h.of, fun q => ?_, h.le, h.ab, h.ob, Nat.le_trans h.hB k.1⟩
  have := h.mr q
  revert this
  cases hM : alGet q M <;> cases alGet q L <;> intro this
  · trivial
  · exact this
  · exact this
  · exact ⟨this.o, this.l.keep k (fun j hj hc => by simp at hc; have := h.ab q _ hM j hj; omega), this.f, this.b⟩
/-- What lies where, between two acts. -/
structure AcS (X : Mem) (Hc : Hp) (kc km kd : Nat) (R ep : Int) (M : List (Ky × Wv)) (ov kv wv : SV) (WL : List Wv) (L : List (Ky × Wy)) : Prop where
  ca : CaP (kd + 1) Hc kc km R ep M ov L
  rf : RfP Hc (km :: kc :: kd :: slFp ov) kd R ep kv wv WL L
  kk : Keep [] X.heap Hc
  kb : X.heap.length ≤ km
  kd : kc < kd
theorem AcS.keep {X : Mem} {Hc H' : Hp} {kc km kd : Nat} {R ep : Int} {M : List (Ky × Wv)} {ov kv wv : SV} {WL : List Wv} {L : List (Ky × Wy)} (h : AcS X Hc kc km kd R ep M ov kv wv WL L) (k : Keep [] Hc H') : AcS X H' kc km kd R ep M ov kv wv WL L :=
  ⟨h.ca.keep (k.weak (by simp)) h.kd (Nat.lt_succ_self _), h.rf.keep k (by simp) (by simp) (fun _ hj _ => hj), h.kk.trans k, h.kb, h.kd⟩
theorem getP_b {H : Hp} {S : List Nat} {M : List (Ky × Wv)} {L : List (Ky × Wy)} (h : MapR H S M L) (ep : Int) (k : Ky) (e : Int) : 2 * ((getP ep L k e).getD (0, [])).2.length * 16 ≤ two48 := by
  unfold getP
  split
  · have := h k
    cases hL : alGet k L with
    | none => simp [two48]
    | some p =>
      rw [hL] at this
      cases hM : alGet k M with
      | none => rw [hM] at this; exact this.elim
      | some w => rw [hM] at this; exact this.b
  · simp [two48]
/-- The rounds over all that is kept, and what is told then. -/
noncomputable abbrev caT (X : Mem) (kc kd : Nat) (Hc : Hp) (e : Option Nat) : Option (SV × Mem) :=
    fin [.cell 4 none] X
        (KV tb [.kp [4, 5, 7, 14, 128], .seq (.block 2 (.rangef (.t 128) [129, 130] s_law16_CacheActs_p18 s_law16_CacheActs_p21)), .kp [4, 5, 7, 14], .seq ((SCode.kp [4] s_law16_CacheActs_p23).seq .ret)] false
          (RF tb f_cache_Cache_All [.ptr (.hp kc 0) 0] ((X.hp Hc).fr [.cells true [.bool false], .cells true [.ptr (.hp kd 0) 0], .cells true [.int .i64 0]] e))
          (some 128) []
          [(127, .ptr (.hp kc 0) 0), (14, .ptr (.st X.dep 2) 0), (4, .ptr (.st X.dep 0) 0), (5, .ptr (.hp kc 0) 0), (7, .ptr (.st X.dep 1) 0)])
theorem acts_loop {X : Mem} {v : SV} {l : List Ax} (hl : LiesD actF (Hm X.heap) v l) (hlen : l.length ≤ 4611686018427387903) (hc : ∀ (i : Nat) (a : Ax), l[i]? = some a → ∃ c, LiesD cellF (Hm X.heap) a.2.2.2.2 c ∧ 2 * c.length * 16 ≤ two48) {R : Int} (hR : 1 ≤ R ∧ R ≤ 256) (hw : X.Wf) (hhb : X.hb ≤ X.hl) {kc km kd : Nat} (hkb : X.heap.length ≤ km)
    (tail : ∀ Hc e ep M ov kv wv WL L, AcS X Hc kc km kd R ep M ov kv wv WL L → ∃ m', caT X kc kd Hc e = some (.bool true, m')) {Hc : Hp} (h0 : AcS X Hc kc km kd R 0 [] .nils .nils .nils [] []) (e : Option Nat) :
    ∃ m', fin [.cell 4 none] X (KL tb [.block 0, .kp [4, 5, 7], .seq s_law16_CacheActs_p24] 2 (some [1, 4, 5, 7, 9]) s_law16_CacheActs_p16 [(1, v), (4, .ptr (.st X.dep 0) 0), (5, .ptr (.hp kc 0) 0), (7, .ptr (.st X.dep 1) 0), (9, .int .i64 0)] ((X.hp Hc).fr [.cells true [.bool false], .cells true [.ptr (.hp kd 0) 0]] e)) = some (.bool true, m') := by
  have sv := hl.isSl
  have hHl : X.hl = X.heap.length := rfl
  refine KL_ind (R := fun z => ∃ m', fin [.cell 4 none] X z = some (.bool true, m')) (α := Nat × Hp × Option Nat × Int × List (Ky × Wv) × SV × SV × SV × List Wv × List (Ky × Wy)) (fun q => l.length - q.1)
    (fun q => [(1, v), (4, .ptr (.st X.dep 0) 0), (5, .ptr (.hp kc 0) 0), (7, .ptr (.st X.dep 1) 0), (9, .int .i64 (q.1 : Int))]) (fun q => (X.hp q.2.1).fr [.cells true [.bool false], .cells true [.ptr (.hp kd 0) 0]] q.2.2.1)
    (fun q => q.1 ≤ l.length ∧ AcS X q.2.1 kc km kd R q.2.2.2.1 q.2.2.2.2.1 q.2.2.2.2.2.1 q.2.2.2.2.2.2.1 q.2.2.2.2.2.2.2.1 q.2.2.2.2.2.2.2.2.1 q.2.2.2.2.2.2.2.2.2) ?_ (0, Hc, e, 0, [], .nils, .nils, .nils, [], []) ⟨Nat.zero_le _, h0⟩
  clear h0
  rintro ⟨q, Hc, e, ep, M, ov, kv, wv, WL, L⟩ ⟨hq, h⟩ ih
  dsimp only at hq h ih ⊢
  have hlc := hl.keep h.kk (by simp)
  have hX := h.kk.1
  have hkd := h.kd
  have hlt' := h.ca.lt
  have hB := h.ca.hB
  by_cases hlt : q < l.length
  · obtain ⟨a, ha⟩ : ∃ a, l[q]? = some a := ⟨_, List.getElem?_eq_getElem hlt⟩
    obtain ⟨c, hcl, hcb⟩ := hc q a ha
    have hcc := hcl.keep h.kk (by simp)
    have sa := hcc.isSl
    have ia := LiesD.iaddrA hlc hlt
    have d0 := fun {Y : Mem} (hY : HpSub (Hm Hc) Y) => LiesD.loadA0 hlc ha hY
    have d1 := fun {Y : Mem} (hY : HpSub (Hm Hc) Y) => LiesD.loadA1 hlc ha hY
    have d7 := fun {Y : Mem} (hY : HpSub (Hm Hc) Y) => LiesD.loadA7 hlc ha hY
    have d8 := fun {Y : Mem} (hY : HpSub (Hm Hc) Y) => LiesD.loadA8 hlc ha hY
    obtain ⟨ag, ak, ae, ao, av⟩ := a
    dsimp only at d0 d1 d7 d8 hcl hcc sa
    cases ag with
    | true =>
      simp (maxDischargeDepth := 8) only [go_sem, hw, sv.l, hlc.len, show decide ((q : Int) < (l.length : Int)) = true from decide_eq_true (by omega), ia, d0, d1, d7, shut_get]
      generalize hz : RF tb f_cache_Cache_Get _ _ = z
      obtain ⟨v', H1, rfl, o1, k1, f1⟩ := cget_of (k := ak) (e := ae) hz h.ca.at_ h.ca.mr (by simp (maxDischargeDepth := 8) only [go_sem, hw]) (by show X.hb ≤ Hc.length; omega)
      change Keep [] Hc H1 at k1
      have s1 := o1.isSl cellF_even
      have h' := h.keep k1
      have hlc1 := hlc.keep k1 (by simp)
      have e1 := fun {Y : Mem} (hY : HpSub (Hm H1) Y) => LiesD.loadA1 hlc1 ha hY
      have e7 := fun {Y : Mem} (hY : HpSub (Hm H1) Y) => LiesD.loadA7 hlc1 ha hY
      dsimp only at e1 e7
      have hLR := h.ca.le
      simp (maxDischargeDepth := 8) only [go_sem, hw, sv.l, s1.l, s1.c, s1.k, s1.o, ia, e1, e7, shut_get]
      obtain ⟨v2, g1, g2⟩ := r_ref16_Get h'.rf h.ca.nl (by omega) (X := (X.hp H1).fr [.cells true [.bool false], .cells true [.ptr (.hp kd 0) 0], .cells true [.int .i64 ((getP ep L ak ae).getD (0, [])).1, v']] e) (by simp (maxDischargeDepth := 8) only [go_sem]) (by simp (maxDischargeDepth := 8) only [go_sem, hw]) ak ae
      have s2 := g2.isSl
      have hsm := fun (o : Int) {Y : Mem} => r_sameC (X := Y) (o1.lies cellF_even) g2 (getP_b h.ca.mr ep ak ae) o
      simp (maxDischargeDepth := 8) only [go_sem, hw, sv.l, s1.l, s1.c, s1.k, s1.o, g1, s2.l, s2.c, s2.k, s2.o, hsm, show ∀ b : Bool, (b != b) = false from fun b => by cases b <;> rfl]
      rw [KL_keep _ _ _ (by simp (maxDischargeDepth := 8) only [go_sem, sv.l])]
      simp (maxDischargeDepth := 8) only [go_sem, wrap_succ (show q ≤ 4611686018427387903 by omega)]
      exact ih (q + 1, H1, e, ep, M, ov, kv, wv, WL, L) ⟨by dsimp only; omega, h'⟩ (by dsimp only; omega)
    | false =>
      simp (maxDischargeDepth := 8) only [go_sem, hw, sv.l, hlc.len, show decide ((q : Int) < (l.length : Int)) = true from decide_eq_true (by omega), ia, d0, d1, d7, d8, shut_get, sa.l, sa.c, sa.k, sa.o]
      generalize hz : RF tb f_cache_Cache_Put _ _ = z
      have fa : ∀ j ∈ slFp av, j < X.heap.length := hcl.fp
      obtain ⟨H1, u1, M1, ov1, rfl, c1, k1, f1⟩ := cput_of (k := ak) (e := ae) (o := ao) hz h.ca (by simp (maxDischargeDepth := 8) only [go_sem, hw]) (by show X.hb ≤ km; omega) hR hcc (fun j hj hc => by
        have := fa j hj
        simp only [List.mem_cons] at hc
        rcases hc with h1 | h1 | h1
        · omega
        · omega
        · have := h.ca.ob j h1; omega) hcb
      change Keep (km :: kc :: slFp ov) Hc H1 at k1
      change ∀ j ∈ slFp ov1, j ∈ slFp ov ∨ Hc.length ≤ j at f1
      have kX1 : Keep [] X.heap H1 := h.kk.trans' k1 (fun n hn hl => by
        simp only [List.mem_cons] at hn
        rcases hn with h1 | h1 | h1
        · omega
        · omega
        · have := h.ca.ob n h1; omega)
      have hlc1 := hl.keep kX1 (by simp)
      have e1 := fun {Y : Mem} (hY : HpSub (Hm H1) Y) => LiesD.loadA1 hlc1 ha hY
      have e7 := fun {Y : Mem} (hY : HpSub (Hm H1) Y) => LiesD.loadA7 hlc1 ha hY
      have e8 := fun {Y : Mem} (hY : HpSub (Hm H1) Y) => LiesD.loadA8 hlc1 ha hY
      dsimp only at e1 e7 e8
      simp (maxDischargeDepth := 8) only [go_sem, hw, sv.l, ia, e1, e7, e8, shut_get, sa.l, sa.c, sa.k, sa.o]
      generalize hz : RF tb f_ref16_Put _ _ = z
      have r1 : RfP H1 (km :: kc :: kd :: slFp ov1) kd R ep kv wv WL L := h.rf.keep k1 (fun j hj => by
          simp only [List.mem_cons] at hj ⊢
          rcases hj with h1 | h1 | h1
          · exact .inl h1
          · exact .inr (.inl h1)
          · exact .inr (.inr (.inr h1))) (fun hc => by
          simp only [List.mem_cons] at hc
          rcases hc with h1 | h1 | h1
          · omega
          · omega
          · have := h.ca.ob kd h1; omega) (fun j hj hl => by
          simp only [List.mem_cons] at hj ⊢
          rcases hj with h1 | h1 | h1 | h1
          · exact .inl h1
          · exact .inr (.inl h1)
          · exact .inr (.inr (.inl h1))
          · rcases f1 j h1 with h2 | h2
            · exact .inr (.inr (.inr h2))
            · omega)
      have q1 := k1.1
      have c1l := c1.hB
      obtain ⟨H2, u2, kv2, wv2, WL2, rfl, r2, k2⟩ := rput_of (k := ak) (e := ae) (o := ao) hz r1 h.ca.nl hR h.ca.le (by simp (maxDischargeDepth := 8) only [go_sem, hw]) (by show X.hb ≤ kd; omega) (fun j hj => by
        show j < H1.length
        simp only [List.mem_cons] at hj
        rcases hj with h1 | h1 | h1 | h1
        · omega
        · omega
        · omega
        · exact c1.at_.od.fp j h1) (hcl.keep kX1 (by simp)) (fun j hj hc => by
        have := fa j hj
        simp only [List.mem_cons] at hc
        rcases hc with h1 | h1 | h1 | h1
        · omega
        · omega
        · omega
        · have := c1.ob j h1; omega) hcb (by simp)
      change Keep [kd] H1 H2 at k2
      have h2 : AcS X H2 kc km kd R ae M1 ov1 kv2 wv2 WL2 (putL R (if ae = ep then L else []) ak (ao, c)) :=
        ⟨c1.keep k2 hkd (Nat.lt_succ_self _), r2, kX1.trans' k2 (fun n hn hl => by simp at hn; omega), h.kb, hkd⟩
      simp (maxDischargeDepth := 8) only [go_sem, hw, sv.l]
      rw [KL_keep _ _ _ (by simp (maxDischargeDepth := 8) only [go_sem, sv.l])]
      simp (maxDischargeDepth := 8) only [go_sem, wrap_succ (show q ≤ 4611686018427387903 by omega)]
      exact ih (q + 1, H2, _, ae, M1, ov1, kv2, wv2, WL2, _) ⟨by dsimp only; omega, h2⟩ (by dsimp only; omega)
  · obtain rfl : q = l.length := by omega
    simp (maxDischargeDepth := 8) only [go_sem, hw, sv.l, hlc.len, show decide ((l.length : Int) < (l.length : Int)) = false from decide_eq_false (by omega)]
    exact tail Hc e ep M ov kv wv WL L h
abbrev caM (X : Mem) (kc kd kb : Nat) (n : Int) (st : LoopState) (pd : Option Jump) (H : Hp) (e : Option Nat) : Mem :=
  (X.hp H).fr [.cells true [.bool false], .cells true [.ptr (.hp kd 0) 0], .cells true [.int .i64 n],
    .loop ⟨st, pd, [(4, .ptr (.st X.dep 0) 0), (5, .ptr (.hp kc 0) 0), (7, .ptr (.st X.dep 1) 0), (14, .ptr (.st X.dep 2) 0), (128, .fn f_cache_Cache_All_1 [] [.ptr (.hp kb 0) 0])], [129, 130], s_law16_CacheActs_p18, s_law16_CacheActs_p21⟩] e
theorem acts_tail {X : Mem} {kc km kd : Nat} {R ep : Int} {M : List (Ky × Wv)} {ov kv wv : SV} {WL : List Wv} {L : List (Ky × Wy)} {Hc : Hp} (hR : 1 ≤ R ∧ R ≤ 256) (hw : X.Wf) (hhb : X.hb ≤ X.hl) (h : AcS X Hc kc km kd R ep M ov kv wv WL L) (e : Option Nat) : ∃ m', caT X kc kd Hc e = some (.bool true, m') := by
  have hX := h.kk.1
  have hkd := h.kd
  have hlt' := h.ca.lt
  have hB := h.ca.hB
  have hLR := h.ca.le
  have hkb := h.kb
  have hHl : X.hl = X.heap.length := rfl
  obtain ⟨HB, hHB⟩ : ∃ HB, Hc ++ [(0, SBk.cells true [.ptr (.hp kc 0) 0])] = HB := ⟨_, rfl⟩
  have kB : Keep [] Hc HB := by rw [← hHB]; exact Keep.app _ _ _
  have bB : hget HB Hc.length 0 = some (.cells true [.ptr (.hp kc 0) 0]) := by rw [← hHB]; exact hget_new0 0 _
  have lB : HB.length = Hc.length + 1 := by rw [← hHB, List.length_append]; rfl
  have h1 := h.keep kB
  simp (maxDischargeDepth := 8) only [go_sem, caT, hw, r_cache_All, hHB]
  have hdr := r_cache_All_1 [] e (D := X.dep) (i := 3) (kb := Hc.length) (kc := kc) (km := km) (R := R) (ep := ep) (Mm := M) (ov := ov) (L := L) (S := km :: kc :: slFp ov) (α := Nat × Hp) (fun q => caM X kc kd Hc.length (q.1 : Int) .ready none q.2 e)
    (fun q a _ => a.1 = q ∧ AcS X a.2 kc km kd R ep M ov kv wv WL L ∧ hget a.2 Hc.length 0 = some (.cells true [.ptr (.hp kc 0) 0]) ∧ Keep [] HB a.2) ?_ (by omega) h.ca.nl ?_ (0, HB) ⟨rfl, h1, bB, Keep.refl _ _⟩
  · obtain ⟨⟨n, Hd⟩, u, hdr, hn, h2, b2, k2⟩ := hdr
    dsimp only at hn h2 b2 k2
    subst hn
    simp only [caM, frs_nil_fr] at hdr
    rw [show ((0 : Nat) : Int) = 0 from rfl] at hdr
    have hHB : HB.length ≤ Hd.length := k2.1
    obtain ⟨Hf, hHf⟩ : ∃ Hf, (if escOk HB.length u = true then Hd.take HB.length else Hd) = Hf := ⟨_, rfl⟩
    have kf : Keep [] HB Hf := by
      rw [← hHf]
      split
      · exact k2.take (Nat.le_refl _)
      · exact k2
    have h3 := h1.keep kf
    have hlf := kf.1
    have lk := h3.rf.kl
    have sk := lk.isSl
    have hln := fun {Y : Mem} (hY : HpSub (Hm Hf) Y) => r_cache_Len h3.ca.at_ (X := Y) hY
    simp (maxDischargeDepth := 8) only [go_sem, hdr, hw, hHf, h3.rf.hd, lk.len, List.length_map, shut_get, show ((L.length : Int) == (L.length : Int)) = true from beq_self_eq_true _, hln]
    generalize hz : RF tb f_law16_awake _ _ = z
    obtain ⟨H', u9, rfl, -⟩ := aw16 hz (by simp (maxDischargeDepth := 8) only [go_sem, hw]) (by show X.hb ≤ Hf.length; omega)
    simp (maxDischargeDepth := 8) only [go_sem, hw]
    exact ⟨_, rfl⟩
  · rintro q ⟨n, a⟩ u ⟨hn, h2, b2, k2⟩
    dsimp only at hn h2 b2 k2 ⊢
    refine ⟨?_, fr_wf (hp_wf hw) _ _, b2, h2.ca.at_, h2.ca.mr⟩
    show X.dep < ((X.hp a).fr _ _).dep; rw [fr_dep]; exact Nat.lt_succ_self _
  · rintro q ⟨n, a⟩ u k p ⟨hn, h2, b2, k2⟩ hk hpb v' H1 o1 k1 f1 g
    dsimp only at hn h2 b2 k2 o1 k1 f1 ⊢
    subst hn
    change Keep [] a H1 at k1
    have h3 := h2.keep k1
    refine ⟨(n + 1, H1), _, yields_fr (b := .st X.dep 3) (d := none) (go := true) ?_ _ _ _ _, rfl, h3, k1.get b2 (by simp), k2.trans k1⟩
    have s1 := o1.isSl cellF_even
    intro fs e'
    rw [RV_go (l := ⟨.ready, none, _, _, _, _⟩) _ _ _ (by simp (maxDischargeDepth := 8) only [go_sem, caM]; rfl) rfl rfl (by simp (maxDischargeDepth := 8) only [go_sem, caM, hw])]
    have hlt : n < L.length := (List.getElem?_eq_some_iff.1 hk).1
    have hwl : WL.length = L.length := h3.rf.len
    obtain ⟨w', hw'⟩ : ∃ w', WL[n]? = some w' := ⟨_, List.getElem?_eq_getElem (by rw [hwl]; exact hlt)⟩
    have hwr := h3.rf.wr n w' (k, p) hw' hk
    obtain ⟨wo, wv'⟩ := w'
    have e1 : wo = p.1 := hwr.o
    subst e1
    have s2 := hwr.l.isSl
    have hk1 : (L.map Prod.fst)[n]? = some k := by rw [List.getElem?_map, hk]; rfl
    have lk := h3.rf.kl
    have lw := h3.rf.wl
    have sk := lk.isSl
    have sw := lw.isSl
    have ik := LiesD.iaddrKy lk (i := n) (by rw [List.length_map]; exact hlt)
    have dk := fun {Y : Mem} (hY : HpSub (Hm H1) Y) => LiesD.loadKy lk hk1 hY
    have iw := LiesD.iaddrWv lw (i := n) (by omega)
    have dw := fun {Y : Mem} (hY : HpSub (Hm H1) Y) => LiesD.loadWv lw hw' hY
    have hsm := fun (o : Int) {Y : Mem} => r_sameC (X := Y) hwr.l (o1.lies cellF_even) hpb o
    have hse := ky_eqb k k
    rw [decide_eq_true rfl] at hse
    have hTk : H1.take H1.length = H1 := List.take_of_length_le (Nat.le_refl _)
    simp (maxDischargeDepth := 8) only [go_sem, caM, hw, s1.l, s1.c, s1.k, s1.o, h3.rf.hd, lk.len, List.length_map, show decide ((n : Int) ≥ (L.length : Int)) = false from decide_eq_false (by omega), sk.l, sk.c, sk.k, sk.o, sw.l, sw.c, sw.k, sw.o, ik, dk, iw, dw, hse, hsm, s2.l, s2.c, s2.k, s2.o, shut_get, wrap_succ (show n ≤ 4611686018427387903 by omega), hTk]
theorem r_law16_CacheActs {X : Mem} {v : SV} {l : List Ax} (hl : LiesD actF (Hm X.heap) v l) (hlen : l.length ≤ 4611686018427387903) (hc : ∀ (i : Nat) (a : Ax), l[i]? = some a → ∃ c, LiesD cellF (Hm X.heap) a.2.2.2.2 c ∧ 2 * c.length * 16 ≤ two48) (hw : X.Wf) (hhb : X.hb ≤ X.hl) (room : Int) :
    ∃ m', RF tb f_law16_CacheActs [.int .i64 room, v] X = some (.bool true, m') := by
  rw [RF_go t_law16_CacheActs _ _ rfl, push_hp]
  generalize hH : X.heap = H at *
  have hHl : X.hl = H.length := by rw [← hH]; rfl
  have sv := hl.isSl
  simp (maxDischargeDepth := 8) only [go_sem, s_law16_CacheActs, hw, hH, sv.l, sv.c, sv.k, sv.o]
  generalize hz : RF tb f_law16_awake _ _ = z
  obtain ⟨H0, u0, rfl, k0⟩ := aw16 hz (by simp (maxDischargeDepth := 8) only [go_sem, hw]) (by show X.hb ≤ H.length; omega)
  change Keep [] H H0 at k0
  have l0 := k0.1
  by_cases hR : 1 ≤ room ∧ room ≤ 256
  · simp (maxDischargeDepth := 8) only [go_sem, hw, sv.l]
    generalize hz : RF tb f_cache_New _ _ = z
    obtain ⟨H1, kc, km, rfl, c1, k1, e1, e2⟩ := cnew_of hz (by simp (maxDischargeDepth := 8) only [go_sem, hw]) hR
    change Keep [] H0 H1 at k1
    change km = H0.length at e1
    change kc = H0.length + 1 at e2
    have hk1 := hget_lt c1.hd
    have hnew := fun {Y : Mem} (hY : Y.Wf) => r_ref16_New Y hY room hR
    simp (maxDischargeDepth := 8) only [go_sem, hw, sv.l, hnew]
    obtain ⟨H2, hH2⟩ : ∃ H2, H1 ++ [(0, SBk.cells true [.int .i64 room, .int .i64 0, .nils, .nils])] = H2 := ⟨_, rfl⟩
    have l2 : H2.length = H1.length + 1 := by rw [← hH2, List.length_append]; rfl
    have k2 : Keep [] H1 H2 := by rw [← hH2]; exact Keep.app _ _ _
    have d2 : hget H2 H1.length 0 = some (.cells true [.int .i64 room, .int .i64 0, .nils, .nils]) := by rw [← hH2]; exact hget_new0 0 _
    rw [hH2]
    have hS : AcS X H2 kc km H1.length room 0 [] .nils .nils .nils [] [] :=
      ⟨⟨⟨k2.get c1.hd (by simp), k2.get c1.mp (by simp), Own.nil _⟩, by simp, by simp, by omega, by simp [slFp], fun q => trivial, by simp; omega, fun q w h => (by cases h), by simp [slFp], by omega⟩,
        ⟨d2, LiesD.nil _ _, LiesD.nil _ _, rfl, fun i w p h _ => by simp at h, by simp [slFp], by simp [slFp]⟩, by rw [hH]; exact (k0.trans k1).trans k2, by rw [hH]; omega, by omega⟩
    exact acts_loop (X := X) (by rw [hH]; exact hl) hlen (by rw [hH]; exact hc) hR hw (by rw [hHl]; omega) (kc := kc) (km := km) (kd := H1.length) (by rw [hH]; omega) (fun Hc e ep M ov kv wv WL L h => acts_tail hR hw (by rw [hHl]; omega) h e) hS u0
  · have n1 := fun {Y : Mem} (hY : Y.Wf) => r_cache_New_no Y hY room hR
    have n2 := fun {Y : Mem} (hY : Y.Wf) => r_ref16_New_no Y hY room hR
    simp (maxDischargeDepth := 8) only [go_sem, hw, sv.l, n1, n2, show ((1 : Int) != 1) = false from rfl, show ((1 : Int) == 0) = false from rfl, show ((1 : Int) != 0) = true from rfl]
    generalize hz : RF tb f_law16_awake _ _ = z
    obtain ⟨H1, u1, rfl, k1⟩ := aw16 hz (by simp (maxDischargeDepth := 8) only [go_sem, hw]) (by show X.hb ≤ H0.length; omega)
    simp (maxDischargeDepth := 8) only [go_sem, hw]
    exact ⟨_, rfl⟩
section
open Go Go.ChangeShapes Go.WideShapes Go.ChangeAt Go.RowKit
def rowB {α : Type} (d : Rd α) : List α → Nat → List (List SV)
  | [], _ => []
  | a :: l, n => d.blks a n ++ rowB d l (n + (d.blks a n).length)
def rowC {α : Type} (d : Rd α) : List α → Nat → List SV
  | [], _ => []
  | a :: l, n => d.cells a n ++ rowC d l (n + (d.blks a n).length)
theorem rowB_app {α : Type} (d : Rd α) : ∀ (l : List α) (a : α) (n : Nat), rowB d (l ++ [a]) n = rowB d l n ++ d.blks a (n + (rowB d l n).length) := by
  intro l
  induction l with
  | nil => intro a n; simp [rowB]
  | cons x l ih =>
    intro a n
    simp only [List.cons_append, rowB, ih, List.append_assoc, List.length_append]
    rw [Nat.add_assoc]
theorem rowC_app {α : Type} (d : Rd α) : ∀ (l : List α) (a : α) (n : Nat), rowC d (l ++ [a]) n = rowC d l n ++ d.cells a (n + (rowB d l n).length) := by
  intro l
  induction l with
  | nil => intro a n; simp [rowC, rowB]
  | cons x l ih =>
    intro a n
    simp only [List.cons_append, rowC, rowB, ih, List.append_assoc, List.length_append]
    rw [Nat.add_assoc]
def rsV {α : Type} (d : Rd α) (s : Sl α) (n : Nat) : SV := match s.cap with
  | none => .nils
  | some 0 => .emp
  | some c => .sl (.hp (n + (rowB d s.l n).length) 0) 0 s.l.length (some c) d.sz
def rsB {α : Type} (d : Rd α) (s : Sl α) (n : Nat) : List (List SV) := match s.cap with
  | none => []
  | some 0 => []
  | some _ => rowB d s.l n ++ [rowC d s.l n]
def rsR {α : Type} (d : Rd α) : Rd (Sl α) := ⟨1, fun s n => [rsV d s n], fun s n => rsB d s n⟩
theorem weights_all {H : Type} {P : Program} {e : TypeId} {n : Nat} : ∀ {l : List (DataW H)} {d : DataW H}, d ∈ l → n ∈ d.weights P e → n ∈ DataW.weightsAll P e l := by
  intro l
  induction l with
  | nil => intro d h; cases h
  | cons x l ih =>
    intro d h hn
    simp only [DataW.weightsAll, List.mem_append]
    rcases List.mem_cons.1 h with rfl | h
    · exact .inl hn
    · exact .inr (ih h hn)
theorem reads_rslice {α : Type} {P : Program} {t e : TypeId} {d : Rd α} {ok : α → Prop} (ht : P.underlying t = some (.slice e)) (hs : P.cellsOf e = d.sz) (hpos : 0 < d.sz) (hd : Reads P e d ok) :
    Reads P t (rsR d) (slOk P e ok) := by
  constructor
  intro H enc W base spare held fuel cs x hsp hx hw
  rcases Deep.open_slice ht hx with ⟨rfl, rfl⟩ | ⟨a, len, cap, m, n, D, Pl, rfl, hb, hl, hm, hmm, rfl, hel⟩
  · refine ⟨⟨[], none⟩, ⟨by simp, by simp, by simp, by simp, by simp⟩, fun _ => rfl, fun pre hp => ⟨[], rfl, by simpa using hp, ?_⟩⟩
    exact .cons .nils .nil
  · have hmc : m = cap := by rw [hmm, if_pos (hsp _)]
    subst hmc
    have hsz : (m * P.bytesOf e) ≤ reachBytes := by
      apply hw
      simp only [DataW.weights, ht]
      refine List.mem_cons.2 (.inl ?_)
      simp
      congr 1
      omega
    have hlist : ∀ j, j ≤ len → ∃ l : List α, l.length = j ∧ (∀ a ∈ l, ok a) ∧ (∀ n, (rowC d l n).length = j * d.sz) ∧ ∃ vs : List Value, (∀ i, i < j * d.sz → W.cell? (a.add i) = vs[i]?) ∧ vs.length = j * d.sz ∧ ∀ pre : In, pre.Ok P W → ∃ new : In, new.map (·.2) = rowB d l pre.length ∧ In.Ok P W (pre ++ new) ∧ VRs (In.mu (pre ++ new)) (rowC d l pre.length) vs := by
      intro j
      induction j with
      | zero => exact fun _ => ⟨[], rfl, by simp, by simp [rowC], [], fun i hi => by omega, by simp, fun pre hp => ⟨[], rfl, by simpa using hp, .nil⟩⟩
      | succ j ih =>
        intro hj
        obtain ⟨l, q1, q2, q3, vs, q4, q5, q6⟩ := ih (by omega)
        obtain ⟨c, h1, h2⟩ := hel j (by omega)
        obtain ⟨b, o1, l1, k1⟩ := hd.out enc W base spare held n c _ hsp h2 (fun z hz => hw z (by
          simp only [DataW.weights, ht]
          refine List.mem_cons.2 (.inr (List.mem_append.2 (.inl (weights_all (d := D j) ?_ hz))))
          exact List.mem_map.2 ⟨j, List.mem_range.2 (by omega), rfl⟩))
        obtain ⟨_, hclen, hc⟩ := World.cells?_some h1
        rw [hs] at hclen
        refine ⟨l ++ [b], by simp [q1], ?_, ?_, vs ++ c, ?_, ?_, fun pre hp => ?_⟩
        · intro z hz
          rcases List.mem_append.1 hz with hz | hz
          · exact q2 z hz
          · simp at hz; subst hz; exact o1
        · intro n
          rw [rowC_app, List.length_append, q3, l1, Nat.add_mul, Nat.one_mul]
        · intro i hi
          by_cases hlt : i < j * d.sz
          · rw [List.getElem?_append_left (by omega)]; exact q4 i hlt
          · rw [List.getElem?_append_right (by omega), q5]
            have hi2 : i - j * d.sz < c.length := by
              rw [hclen]; rw [Nat.add_mul, Nat.one_mul] at hi; omega
            have := hc (i - j * d.sz) (by rw [hs]; omega)
            rw [addr_add, hs, show j * d.sz + (i - j * d.sz) = i by omega] at this
            exact this
        · rw [List.length_append, q5, hclen, Nat.add_mul, Nat.one_mul]
        · obtain ⟨n1, e1, p1, r1⟩ := q6 pre hp
          obtain ⟨n2, e2, p2, r2⟩ := k1 (pre ++ n1) p1
          have hlen : (pre ++ n1).length = pre.length + (rowB d l pre.length).length := by rw [List.length_append, ← e1, List.length_map]
          rw [hlen] at e2 r2
          refine ⟨n1 ++ n2, by rw [List.map_append, e1, e2, rowB_app], by rw [← List.append_assoc]; exact p2, ?_⟩
          rw [rowC_app, ← List.append_assoc]
          exact (r1.sub fun _ _ h => In.mu_app h).append r2
    obtain ⟨l, q1, q2, q3, vs, q4, q5, q6⟩ := hlist len (Nat.le_refl _)
    have hlen2 : len * P.bytesOf e ≤ reachBytes := Nat.le_trans (Nat.mul_le_mul_right _ hl) hsz
    refine ⟨⟨l, some m⟩, ⟨by show l.length ≤ maxLen; omega, by show l.length * _ ≤ _; rw [q1]; exact hlen2, q2, fun c hc => (by cases hc; show l.length ≤ _; omega), fun h => (by cases h)⟩, fun _ => rfl, fun pre hp => ?_⟩
    cases m with
    | zero =>
      refine ⟨[], rfl, by simpa using hp, ?_⟩
      have h0 : len = 0 := by omega
      subst h0
      exact .cons (.emp a) .nil
    | succ c =>
      -- the block
      have hfirst : ∃ v, W.cell? (a.add 0) = some v := by
        obtain ⟨cc, h1, _⟩ := hel 0 (by omega)
        obtain ⟨_, hclen, hc⟩ := World.cells?_some h1
        have := hc 0 (by rw [hs]; exact hpos)
        rw [addr_add] at this
        simp only [Nat.zero_mul] at this
        rw [List.getElem?_eq_getElem (by rw [hclen, hs]; exact hpos)] at this
        exact ⟨_, this⟩
      obtain ⟨v0, hv0⟩ := hfirst
      obtain ⟨C, ee, pp, hh, hv0', hspot⟩ := cell_app hv0
      have ha0 : a.add 0 = a := rfl
      rw [ha0] at hh hspot hv0'
      have hbl : ∀ i v, W.cell? (a.add i) = some v → C[a.off + i]? = some v := by
        intro i v hv
        obtain ⟨C', _, _, h1, h2, _⟩ := cell_app hv
        have eb : (a.add i).block = a.block := by unfold Addr.add; split <;> rfl
        have eo : (a.add i).off = a.off + i := by
          unfold Addr.add
          split
          · rename_i h0; rw [h0]; rfl
          · rfl
        rw [eb, hh] at h1
        cases h1
        rw [eo] at h2
        exact h2
      -- the whole room lies in the block
      have hroom : a.off + (c + 1) * d.sz ≤ C.size := by
        obtain ⟨cc, h1, _⟩ := hel c (by omega)
        obtain ⟨_, hclen, hc⟩ := World.cells?_some h1
        have := hc (d.sz - 1) (by rw [hs]; omega)
        rw [addr_add, hs, List.getElem?_eq_getElem (by rw [hclen, hs]; omega)] at this
        have h3 := (Array.getElem?_eq_some_iff.1 (hbl _ _ this)).1
        rw [Nat.add_mul, Nat.one_mul]
        omega
      obtain ⟨n1, e1, p1, r1⟩ := q6 pre hp
      have hln : (pre ++ n1).length = pre.length + (rowB d l pre.length).length := by rw [List.length_append, ← e1, List.length_map]
      refine ⟨n1 ++ [((a.block, a.off, C.size), rowC d l pre.length)], by rw [List.map_append, e1]; rfl, ?_, ?_⟩
      · rw [← List.append_assoc]
        intro i x hi
        by_cases hlt : i < (pre ++ n1).length
        · rw [List.getElem?_append_left hlt] at hi
          exact p1.sub i x hi
        · rw [List.getElem?_append_right (by omega)] at hi
          have : i - (pre ++ n1).length = 0 := by
            rcases Nat.eq_zero_or_pos (i - (pre ++ n1).length) with h | h
            · exact h
            · rw [List.getElem?_eq_none (show 1 ≤ _ from h)] at hi; cases hi
          rw [this] at hi
          simp only [List.getElem?_cons_zero, Option.some.injEq] at hi
          subst hi
          refine ⟨C, ee, pp.1, pp.2, hh, rfl, ?_, ?_, fun h => by cases h⟩
          · rw [q3]
            have : len * d.sz ≤ (c + 1) * d.sz := Nat.mul_le_mul_right _ hl
            show a.off + len * d.sz ≤ C.size
            omega
          · rw [q3]
            have e1 : (C.toList.drop a.off).take (len * d.sz) = vs := by
              apply List.ext_getElem?
              intro i
              by_cases hi : i < len * d.sz
              · rw [List.getElem?_take, if_pos hi, List.getElem?_drop]
                have hv := q4 i hi
                have hlt : i < vs.length := by omega
                rw [List.getElem?_eq_getElem hlt] at hv ⊢
                have := hbl i _ hv
                simpa using this
              · rw [List.getElem?_eq_none (by simp; omega), List.getElem?_eq_none (by omega)]
            show VRs _ _ ((C.toList.drop a.off).take (len * d.sz))
            rw [e1]
            exact r1.sub fun _ _ h => In.mu_app h
      · refine .cons ?_ .nil
        have hmu : In.mu (pre ++ (n1 ++ [((a.block, a.off, C.size), rowC d l pre.length)])) (.hp (pre.length + (rowB d l pre.length).length) 0) = some (a.block, a.off, C.size) := by
          rw [← hln, ← List.append_assoc]
          simp [In.mu]
        have := VR.sl (off := 0) (len := l.length) (c := c + 1) (z := d.sz) (cap := some (c + 1)) hmu (by omega) (fun k hk => by cases hk; rfl) (by simpa using hroom)
        rw [Nat.add_zero, q1] at this
        have ea : a = ⟨a.block, a.off, none⟩ := by
          clear this
          obtain ⟨ab, ao, asp⟩ := a
          simp only at hspot
          rw [hspot]
        rw [ea]
        simp only [rsV, q1]
        exact this
end
section
open Go Go.ChangeShapes Go.WideShapes Go.ChangeAt Go.RowKit
abbrev Kt := (Int × Int) × (Int × Int) × (Int × Int)
abbrev At := Bool × Kt × Int × Int × Sl (Int × Int)
abbrev ktF : Fl Kt := Fl.pair (Fl.pair (Fl.int .i64) (Fl.int .i64)) (Fl.pair (Fl.pair (Fl.int .i64) (Fl.int .i64)) (Fl.pair (Fl.int .i64) (Fl.int .i64)))
abbrev actR : Rd At := Rd.pair (Rd.flat Fl.bool) (Rd.pair (Rd.flat ktF) (Rd.pair (Rd.flat (Fl.int .i64)) (Rd.pair (Rd.flat (Fl.int .i64)) (Rd.slice (Fl.pair (Fl.int .i64) (Fl.int .i64))))))
def axO (a : At) (n : Nat) : Ax := (a.1, (a.2.1.1.1, a.2.1.1.2, a.2.1.2.1.1, a.2.1.2.1.2, a.2.1.2.2.1, a.2.1.2.2.2), a.2.2.1, a.2.2.2.1, slV cellF a.2.2.2.2 n)
def axL : List At → Nat → List Ax
  | [], _ => []
  | a :: l, n => axO a n :: axL l (n + (slB cellF a.2.2.2.2).length)
theorem axL_len : ∀ (l : List At) (n : Nat), (axL l n).length = l.length
  | [], _ => rfl
  | _ :: l, n => by simp only [axL, List.length_cons, axL_len l]
theorem act_blks (a : At) (n : Nat) : actR.blks a n = slB cellF a.2.2.2.2 := by
  simp [actR, Rd.pair, Rd.flat, Rd.slice, cellF]
theorem act_cells (a : At) (n : Nat) : actR.cells a n = actF.enc (axO a n) := by
  simp [actR, Rd.pair, Rd.flat, Rd.slice, Fl.pair, Fl.int, Fl.bool, actF, axO, cellF]
theorem act_rowC : ∀ (l : List At) (n : Nat), rowC actR l n = (axL l n).flatMap actF.enc
  | [], _ => rfl
  | a :: l, n => by
    show actR.cells a n ++ rowC actR l (n + (actR.blks a n).length) = _
    rw [act_cells, act_blks, act_rowC l]
    rfl
theorem axL_at : ∀ (l : List At) (n j : Nat) (x : Ax), (axL l n)[j]? = some x → ∃ a A B, l[j]? = some a ∧ x = axO a (n + A.length) ∧ rowB actR l n = A ++ slB cellF a.2.2.2.2 ++ B := by
  intro l
  induction l with
  | nil => intro n j x h; simp [axL] at h
  | cons a l ih =>
    intro n j x h
    cases j with
    | zero =>
      simp only [axL, List.getElem?_cons_zero, Option.some.injEq] at h
      refine ⟨a, [], rowB actR l (n + (slB cellF a.2.2.2.2).length), rfl, h.symm, ?_⟩
      show actR.blks a n ++ rowB actR l (n + (actR.blks a n).length) = _
      rw [act_blks]; rfl
    | succ j =>
      simp only [axL, List.getElem?_cons_succ] at h
      obtain ⟨b, A, B, h1, h2, h3⟩ := ih _ j x h
      refine ⟨b, slB cellF a.2.2.2.2 ++ A, B, h1, by rw [h2, List.length_append, Nat.add_assoc], ?_⟩
      show actR.blks a n ++ rowB actR l (n + (actR.blks a n).length) = _
      rw [act_blks, h3]; simp only [List.append_assoc]
theorem blk_atN {n0 : In} {L : List (List SV)} (h : n0.map (·.2) = L) {j : Nat} {c : List SV} (hj : L[j]? = some c) (pre post : In) : ∃ t, (pre ++ n0 ++ post)[pre.length + j]? = some (t, c) := by
  rw [← h, List.getElem?_map] at hj
  cases hx : n0[j]? with
  | none => rw [hx] at hj; cases hj
  | some x =>
    rw [hx] at hj
    simp only [Option.map_some, Option.some.injEq] at hj
    have hlt := (List.getElem?_eq_some_iff.1 hx).1
    refine ⟨x.1, ?_⟩
    rw [List.append_assoc, List.getElem?_append_right (Nat.le_add_right _ _), Nat.add_sub_cancel_left, List.getElem?_append_left hlt, hx, ← hj]
theorem sl_inN {α : Type} {d : Fl α} (hd : d.Even) {P : Program} {e : TypeId} {ok : α → Prop} {s : Sl α} (hok : slOk P e ok s) {pre n0 post : In} {A B : List (List SV)} (e0 : n0.map (·.2) = A ++ slB d s ++ B) : LiesD d (In.mem (pre ++ n0 ++ post)) (slV d s (pre.length + A.length)) s.l := by
  refine lies_in hd hok.2.2.2.1 hok.2.2.2.2 ?_
  have hcs : slB d s = [] ∨ slB d s = [s.l.flatMap d.enc] := by unfold slB; split <;> simp
  rcases hcs with h | h
  · exact .inl h
  · refine .inr ⟨_, h, ?_⟩
    rw [h] at e0
    obtain ⟨t, ht⟩ := blk_atN e0 (j := A.length) (c := s.l.flatMap d.enc) (by simp) pre post
    exact In.get (x := (t, _)) ht
theorem law16_CacheActs {P : Program} {e e' : TypeId} {okA : At → Prop} {okc : Int × Int → Prop} (room : Int) (s : Sl At) (hok : slOk P e okA s) (hin : ∀ a, okA a → slOk P e' okc a.2.2.2.2) (h96 : P.bytesOf e = 96) (h16 : P.bytesOf e' = 16) {n0 n1 : In} (e1 : n1.map (·.2) = rsB actR s ([] ++ n0).length) :
    ∃ m', RF tb f_law16_CacheActs [.int .i64 room, rsV actR s ([] ++ n0).length] (In.mem ([] ++ n0 ++ n1)) = some (.bool true, m') := by
  obtain ⟨l, cap⟩ := s
  have hml : l.length ≤ 4611686018427387903 := by
    have := hok.2.1
    rw [h96] at this
    simp only [reachBytes, maxLen] at this
    omega
  have base : ∀ (v : SV) (ax : List Ax), LiesD actF (Hm (In.mem ([] ++ n0 ++ n1)).heap) v ax → ax.length ≤ 4611686018427387903 → (∀ (i : Nat) (a : Ax), ax[i]? = some a → ∃ c, LiesD cellF (Hm (In.mem ([] ++ n0 ++ n1)).heap) a.2.2.2.2 c ∧ 2 * c.length * 16 ≤ two48) → ∃ m', RF tb f_law16_CacheActs [.int .i64 room, v] (In.mem ([] ++ n0 ++ n1)) = some (.bool true, m') := fun v ax h1 h2 h3 =>
    r_law16_CacheActs (X := In.mem ([] ++ n0 ++ n1)) h1 h2 h3 (In.wf _) (Nat.zero_le _) room
  cases cap with
  | none =>
    have : l = [] := hok.2.2.2.2 rfl
    subst this
    exact base .nils [] (LiesD.nil _ _) (by simp) (fun i a h => by simp at h)
  | some c =>
    cases c with
    | zero =>
      have : l = [] := List.length_eq_zero_iff.1 (Nat.le_zero.1 (hok.2.2.2.1 0 rfl))
      subst this
      exact base .emp [] ⟨rfl, .inr (.inl ⟨rfl, rfl⟩)⟩ (by simp) (fun i a h => by simp at h)
    | succ c =>
      have e2 : n1.map (·.2) = rowB actR l ([] ++ n0).length ++ [rowC actR l ([] ++ n0).length] := e1
      obtain ⟨t, ht⟩ := blk_atN e2 (j := (rowB actR l ([] ++ n0).length).length) (c := rowC actR l ([] ++ n0).length) (by simp) ([] ++ n0) []
      have hg := In.get (x := (t, rowC actR l ([] ++ n0).length)) ht
      rw [List.append_nil] at hg
      refine base _ (axL l ([] ++ n0).length) ?_ (by rw [axL_len]; exact hml) fun i x hi => ?_
      · refine ⟨flat_len actF_even _, .inr (.inr ⟨_, 0, 0, some (c + 1), _, _, ?_, hg, ?_, ?_⟩)⟩
        · show SV.sl (.hp (([] ++ n0).length + (rowB actR l ([] ++ n0).length).length) 0) 0 l.length (some (c + 1)) 10 = _
          rw [axL_len]; rfl
        · rw [act_rowC, flat_len actF_even, Nat.zero_add]; exact Nat.le_refl _
        · rw [act_rowC, List.drop_zero, ← flat_len actF_even, List.take_length]
      · obtain ⟨a, A, B, h1, rfl, h3⟩ := axL_at l _ i x hi
        have ha := hin a (hok.2.2.1 a (List.mem_of_getElem? h1))
        have hl := sl_inN cellF_even ha (pre := [] ++ n0) (n0 := n1) (post := []) (A := A) (B := B ++ [rowC actR l ([] ++ n0).length]) (by rw [e2, h3]; simp only [List.append_assoc])
        rw [List.append_nil] at hl
        refine ⟨a.2.2.2.2.l, hl, ?_⟩
        have := ha.2.1
        rw [h16] at this
        simp only [two48, reachBytes, maxLen] at *
        omega
end
end Go.Sh.T
