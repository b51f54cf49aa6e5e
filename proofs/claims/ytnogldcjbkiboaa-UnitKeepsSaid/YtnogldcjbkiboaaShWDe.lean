import Derived.Test.YtnogldcjbkiboaaShWDd
set_option linter.all false
set_option linter.unusedVariables false
set_option linter.unusedSimpArgs false
set_option autoImplicit false
namespace Go.Sh.T
open Go.Sh
set_option maxHeartbeats 8000000
set_option maxRecDepth 20000
structure UR where
  ax : Int
  ay : Int
  ph : Int
  gx : Int
  gy : Int
  v : SV
  wt : Int
  l : List (Int × Int)
def UR.cells (id pl cl sz : Int) (u : UR) : List SV := [.int .i64 id, .int .i64 pl, .int .i64 cl, .int .i64 sz, .int .i64 u.ax, .int .i64 u.ay, .int .i64 u.ph, .int .i64 u.gx, .int .i64 u.gy, u.v, .int .i64 u.wt]
def UR.Ok (id pl cl sz : Int) (m : Mem) (j : Nat) (L : List (Nat × SBk)) (u : UR) : Prop :=
  (∀ y, LiesD cellF (m.hap (L.set j y)) u.v u.l) ∧ 2 * u.l.length * 16 ≤ two48 ∧ mayU id pl cl sz u.ax u.ay u.ph u.gx u.gy u.wt u.l = true
def UGood (id pl cl sz : Int) (m : Mem) (j w : Nat) (L : List (Nat × SBk)) (us : List UR) : Prop :=
  L[j]? = some (w, .cells true (us.flatMap (UR.cells id pl cl sz))) ∧ ∀ u ∈ us, UR.Ok id pl cl sz m j L u
section
variable {id pl cl sz : Int} {m : Mem} {j w : Nat} {L : List (Nat × SBk)} {us : List UR}
theorem UR.Ok.happ {u : UR} (h : u.Ok id pl cl sz m j L) (hj : j < L.length) (B : List (Nat × SBk)) : u.Ok id pl cl sz m j (L ++ B) := by
  refine ⟨fun y => ?_, h.2⟩
  rw [List.set_append_left _ _ hj]
  exact (h.1 y).happ B
theorem UGood.lt (h : UGood id pl cl sz m j w L us) : j < L.length := (List.getElem?_eq_some_iff.1 h.1).1
theorem UGood.happ (h : UGood id pl cl sz m j w L us) (B : List (Nat × SBk)) : UGood id pl cl sz m j w (L ++ B) us :=
  ⟨by rw [List.getElem?_append_left h.lt]; exact h.1, fun u hu => (h.2 u hu).happ h.lt B⟩
theorem set_same {α : Type} {L : List α} {j : Nat} {x : α} (h : L[j]? = some x) : L.set j x = L := by
  apply List.ext_getElem?
  intro i
  rw [List.getElem?_set]
  split
  · rename_i e; subst e
    split
    · exact h.symm
    · rename_i hn; rw [List.getElem?_eq_none (by omega)]
  · rfl
theorem UR.Ok.lies {u : UR} (h : u.Ok id pl cl sz m j L) {x : Nat × SBk} (hx : L[j]? = some x) : LiesD cellF (m.hap L) u.v u.l := by
  have := h.1 x
  rwa [set_same hx] at this
theorem ucells_len (us : List UR) : (us.flatMap (UR.cells id pl cl sz)).length = us.length * 11 := by
  induction us with
  | nil => rfl
  | cons a r ih => rw [List.flatMap_cons, List.length_append, ih, List.length_cons, Nat.add_mul, Nat.add_comm]; rfl
theorem UGood.lies (h : UGood id pl cl sz m j w L us) (cap : Option Nat) : Lies (m.hap L) 11 (.sl (.hp (m.hl + j) w) 0 us.length cap 11) us.length (us.flatMap (UR.cells id pl cl sz)) := by
  refine ⟨ucells_len us, .inr (.inr ⟨_, _, _, _, us.flatMap (UR.cells id pl cl sz), true, rfl, ?_, ?_, ?_⟩)⟩
  · rw [get_hap m L j w rfl]; simp [hapGet, h.1]
  · rw [ucells_len]; omega
  · rw [List.drop_zero, ← ucells_len, List.take_length]
theorem ucells_ok {x : Nat × SBk} (hx : L[j]? = some x) (us : List UR) (h : ∀ u ∈ us, UR.Ok id pl cl sz m j L u) : SV.cellsOk 0 0 (us.flatMap (UR.cells id pl cl sz)) = true := by
  induction us with
  | nil => rfl
  | cons a r ih =>
    rw [List.flatMap_cons]
    have h1 := ih fun u hu => h u (List.mem_cons_of_mem _ hu)
    have h2 := ((h a (List.mem_cons_self ..)).lies hx).cell 0 0
    simp only [SV.cellsOk, List.all_append, Bool.and_eq_true] at *
    refine ⟨?_, h1⟩
    simp only [UR.cells, List.all_cons, List.all_nil, h2]
    rfl
theorem note_hf (f : List SBk) (e : Option Nat) (L : List (Nat × SBk)) (n v h : Nat) : ((m.fr f e).hap L).note (.hp n v) h = (m.fr f (if h ≤ n then e else escMin e (some n))).hap L := by
  simp only [Mem.note]
  split <;> rfl
/-- A unit more. -/
theorem appU (hhb : m.hb ≤ m.hl) (h : UGood id pl cl sz m j w L us) (hn : us.length ≤ 100) (hpos : 0 < us.length) (cap : Option Nat) {u : UR} (hu : u.Ok id pl cl sz m j L) :
    ∃ (j' w' : Nat) (L' : List (Nat × SBk)) (ef : Option Nat → Option Nat), (∀ f e, appV 11 104 [.int .i64 0, .int .i64 0, .int .i64 0, .int .i64 0, .int .i64 0, .int .i64 0, .int .i64 0, .int .i64 0, .int .i64 0, .nils, .int .i64 0] (fun _ => true) (.sl (.hp (m.hl + j) w) 0 us.length cap 11) (.sl (.hp (m.hl + L.length) 0) 0 1 (some 1) 11) ((m.fr f e).hap (L ++ [(0, .cells true (u.cells id pl cl sz))])) = some (.sl (.hp (m.hl + j') w') 0 (us ++ [u]).length none 11, (m.fr f (ef e)).hap L')) ∧ UGood id pl cl sz m j' w' L' (us ++ [u]) := by
  have h1 := h.happ [(0, .cells true (u.cells id pl cl sz))]
  have hu1 := hu.happ h.lt [(0, .cells true (u.cells id pl cl sz))]
  have hy : Lies (m.hap (L ++ [(0, .cells true (u.cells id pl cl sz))])) 11 (.sl (.hp (m.hl + L.length) 0) 0 1 (some 1) 11) 1 (u.cells id pl cl sz) := by
    refine ⟨rfl, .inr (.inr ⟨_, _, _, _, u.cells id pl cl sz, true, rfl, ?_, by simp [UR.cells], by simp [UR.cells]⟩)⟩
    rw [get_hap m _ L.length 0 rfl]; simp [hapGet]
  have hx := h1.lies cap
  have hok1 := ucells_ok h1.1 us h1.2
  have hok2 : SV.cellsOk 0 0 (u.cells id pl cl sz) = true := by simpa using ucells_ok h1.1 [u] (by simpa using hu1)
  have hcat : us.flatMap (UR.cells id pl cl sz) ++ u.cells id pl cl sz = (us ++ [u]).flatMap (UR.cells id pl cl sz) := by simp
  have hall : ∀ v ∈ us ++ [u], UR.Ok id pl cl sz m j (L ++ [(0, .cells true (u.cells id pl cl sz))]) v := by
    intro v hv
    rcases List.mem_append.1 hv with hv | hv
    · exact h1.2 v hv
    · rw [List.mem_singleton.1 hv]; exact hu1
  have hcond : ([.int .i64 0, .int .i64 0, .int .i64 0, .int .i64 0, .int .i64 0, .int .i64 0, .int .i64 0, .int .i64 0, .int .i64 0, .nils, .int .i64 0] : List SV).length = 11 ∧ 0 < 11 ∧ SV.cellsOk 0 0 (u.cells id pl cl sz) = true ∧ us.length + 1 ≤ two48 ∧ 2 * (us.length + 1) * 104 ≤ two48 := ⟨rfl, by decide, hok2, by simp only [two48]; omega, by simp only [two48]; omega⟩
  generalize hL1 : L ++ [(0, .cells true (u.cells id pl cl sz))] = L1 at *
  have hF : ∀ f e, Lies ((m.fr f e).hap L1) 11 (.sl (.hp (m.hl + j) w) 0 us.length cap 11) us.length (us.flatMap (UR.cells id pl cl sz)) := fun f e => hx.mono fun _ _ _ g => g
  have hG : ∀ f e, Lies ((m.fr f e).hap L1) 11 (.sl (.hp (m.hl + L.length) 0) 0 1 (some 1) 11) 1 (u.cells id pl cl sz) := fun f e => hy.mono fun _ _ _ g => g
  by_cases hr : noRoom cap (us.length + 1) = true
  · refine ⟨L1.length, 0, L1 ++ [(0, .cells true ((us ++ [u]).flatMap (UR.cells id pl cl sz)))], fun e => e, fun f e => ?_, ?_⟩
    · simp only [appV, (hF f e).lenS, (hG f e).lenv, (hG f e).elems, Option.bind_some]
      rw [if_neg (by decide), if_pos hcond, (hF f e).elems]
      simp only [Option.bind_some]
      rw [if_pos ⟨hok1, trivial⟩, if_pos hr, new_hp, hcat]
      simp only [Option.map_some, hl_hap, hl_fr, hap_hap, List.length_append, List.length_cons, List.length_nil]
    · refine ⟨by simp, fun v hv => ⟨fun y => ?_, (hall v hv).2⟩⟩
      rw [List.set_append_right _ _ (Nat.le_refl _)]
      exact ((hall v hv).lies h1.1).happ _
  · refine ⟨j, w + 1, L1.set j (w + 1, .cells true ((us ++ [u]).flatMap (UR.cells id pl cl sz))), fun e => if SV.hxs (u.cells id pl cl sz) ≤ m.hl + j then e else escMin e (some (m.hl + j)), fun f e => ?_, ?_⟩
    · simp only [appV, (hF f e).lenS, (hG f e).lenv, (hG f e).elems, Option.bind_some]
      rw [if_neg (by decide), if_pos hcond, (hF f e).elems]
      simp only [Option.bind_some]
      rw [if_pos ⟨hok1, trivial⟩, if_neg hr]
      have hget : ((m.fr f e).hap L1).get (.hp (m.hl + j) w) = some (.cells true (us.flatMap (UR.cells id pl cl sz))) := by
        rw [get_hap (m.fr f e) L1 j w (hl_fr m f e).symm]; simp [hapGet, h1.1]
      have hset : ∀ x, ({ (m.fr f e).hap L1 with heap := ((m.fr f e).hap L1).heap.set (m.hl + j) x } : Mem) = (m.fr f e).hap (L1.set j x) := by
        intro x
        have := set_hap (m.fr f e) L1 (h := m.hl) j x.1 x.2 (hl_fr m f e).symm
        exact this
      rw [hget]
      simp only
      rw [if_pos ⟨by simp only [Mem.may, decide_eq_true_eq]; show m.hb ≤ _; omega, trivial⟩, hset, note_hf, hcat]
      simp only [List.length_append, List.length_cons, List.length_nil]
    · refine ⟨by rw [List.getElem?_set_self h1.lt], fun v hv => ⟨fun y => ?_, (hall v hv).2⟩⟩
      rw [List.set_set]
      exact (hall v hv).1 y
end
end Go.Sh.T
