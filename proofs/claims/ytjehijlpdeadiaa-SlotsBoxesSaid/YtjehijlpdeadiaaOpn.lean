/- How an argument that can be read as data is read by the kinds of the words: whole numbers, bools, strings, slices, structs, whatever is nested. -/
import Derived.ProofKit
import Derived.SizedLaws
import Derived.Deep.Slices
import Derived.Carry
import Derived.Test.YtjehijlpdeadiaaWWords
set_option linter.unusedVariables false
set_option linter.unusedSimpArgs false
namespace Go.Proofs.Ytjehijlpdeadiaa.Opn
open Go.RowKit Go.WideShapes Go.Proofs.YtjehijlpdeadiaaW.PrintWords

/-- Every value of type t that reads as data is told by the kind d, with the facts ok. -/
structure Opens {α : Type} (P : Program) (t : TypeId) (d : Kd α) (ok : α → Prop) : Prop where
  out : ∀ {H : Type} (enc : TypeId × Value → H) (W : World) (base : Nat) (spare : Nat → Bool) (held : Bool) (fuel : Nat) (cs : List Value) (x : DataW H × List MemPlace),
    DataW.trod enc P W base spare held fuel t cs = some x → (∀ n ∈ x.1.weights P t, n ≤ reachBytes) → ∃ a, d.K W a cs ∧ ok a

theorem Opens.imp {α : Type} {P : Program} {t : TypeId} {d : Kd α} {ok ok' : α → Prop} (h : Opens P t d ok) (k : ∀ a, ok a → ok' a) : Opens P t d ok' := by
  constructor
  intro H enc W base spare held fuel cs x hx hw
  obtain ⟨a, hk, ho⟩ := h.out enc W base spare held fuel cs x hx hw
  exact ⟨a, hk, k a ho⟩
theorem opens_int {P : Program} {t : TypeId} {k : IntKind} (ht : P.underlying t = some (.int k)) : Opens P t (Kd.int k) (fun n => (Lit.int k n).wf = true) := by
  constructor
  intro H enc W base spare held fuel cs x hx hw
  cases fuel with
  | zero => simp [DataW.trod] at hx
  | succ fuel =>
    rcases cs with _ | ⟨c, _ | ⟨c2, cs⟩⟩
    · simp [DataW.trod, ht] at hx
    · cases c <;> simp [DataW.trod, ht] at hx
      rename_i k' n
      obtain ⟨⟨rfl, hwf⟩, _⟩ := hx
      exact ⟨n, rfl, hwf⟩
    · simp [DataW.trod, ht] at hx
theorem opens_bool {P : Program} {t : TypeId} (ht : P.underlying t = some .bool) : Opens P t Kd.bool (fun _ => True) := by
  constructor
  intro H enc W base spare held fuel cs x hx hw
  cases fuel with
  | zero => simp [DataW.trod] at hx
  | succ fuel =>
    rcases cs with _ | ⟨c, _ | ⟨c2, cs⟩⟩
    · simp [DataW.trod, ht] at hx
    · cases c <;> simp [DataW.trod, ht] at hx
      rename_i b
      exact ⟨b, rfl, trivial⟩
    · simp [DataW.trod, ht] at hx

theorem add_add (a : Addr) (x i : Nat) : (a.add x).add i = a.add (x + i) := by
  unfold Addr.add
  by_cases h : x = 0
  · subst h
    simp
  · by_cases h2 : i = 0
    · subst h2
      simp [h]
    · simp [h, h2, show x + i ≠ 0 by omega, Nat.add_assoc]
theorem weightsAll_mem {H : Type} {P : Program} {e : TypeId} : ∀ {l : List (DataW H)} {d : DataW H}, d ∈ l → ∀ n ∈ d.weights P e, n ∈ DataW.weightsAll P e l
  | a :: l, d, hd, n, hn => by
    simp only [DataW.weightsAll, List.mem_append]
    rcases List.mem_cons.1 hd with rfl | hd
    · exact .inl hn
    · exact .inr (weightsAll_mem hd n hn)

theorem opens_slice {α : Type} {P : Program} {t e : TypeId} {d : Kd α} {ok : α → Prop} (ht : P.underlying t = some (.slice e)) (hs : P.cellsOf e = d.sz) (hd : Opens P e d ok) :
    Opens P t (Kd.slice e d) (fun l => l.length ≤ maxLen ∧ l.length * P.bytesOf e ≤ reachBytes ∧ ∀ a ∈ l, ok a) := by
  constructor
  intro H enc W base spare held fuel cs x hx hw
  rcases Deep.open_slice ht hx with ⟨rfl, rfl⟩ | ⟨a, len, cap, m, n, D, Pl, rfl, hb, hl, hm, hmm, rfl, hel⟩
  · exact ⟨[], ⟨none, 0, rfl, Nat.le_refl _, rfl, by simp, fun h => by simp at h⟩, by simp, by simp, by simp⟩
  · have hlm : len ≤ m := by rw [hmm]; split <;> omega
    have hW : ∀ i, i < len → ∀ q ∈ (D i).weights P e, q ≤ reachBytes := by
      intro i hi q hq
      apply hw
      simp only [DataW.weights, ht]
      refine List.mem_cons_of_mem _ (List.mem_append_left _ (weightsAll_mem (d := D i) ?_ q hq))
      exact List.mem_map.2 ⟨i, List.mem_range.2 hi, rfl⟩
    have hall : ∀ i, i < len → ∃ c b, W.cells? base (a.add (i * P.cellsOf e)) (P.cellsOf e) = some c ∧ d.K W b c ∧ ok b := by
      intro i hi
      obtain ⟨c, h1, h2⟩ := hel i (by omega)
      obtain ⟨b, hk, ho⟩ := hd.out enc W base spare held n c _ h2 (hW i hi)
      exact ⟨c, b, h1, hk, ho⟩
    -- the elements, one by one
    have hlist : ∀ j, j ≤ len → ∃ l : List α, l.length = j ∧ ∀ i b, l[i]? = some b → ∃ c, W.cells? base (a.add (i * P.cellsOf e)) (P.cellsOf e) = some c ∧ d.K W b c ∧ ok b := by
      intro j
      induction j with
      | zero => exact fun _ => ⟨[], rfl, fun i b h => by simp at h⟩
      | succ j ih =>
        intro hj
        obtain ⟨l, h1, h2⟩ := ih (by omega)
        obtain ⟨c, b, h3, h4, h5⟩ := hall j (by omega)
        refine ⟨l ++ [b], by simp [h1], fun i b' h => ?_⟩
        by_cases hi : i < l.length
        · rw [List.getElem?_append_left hi] at h
          exact h2 i b' h
        · rw [List.getElem?_append_right (by omega)] at h
          by_cases h0 : i - l.length = 0
          · rw [h0] at h
            simp only [List.getElem?_cons_zero, Option.some.injEq] at h
            subst h
            obtain rfl : i = j := by omega
            exact ⟨c, h3, h4, h5⟩
          · rw [List.getElem?_eq_none (by simp; omega)] at h
            simp at h
    obtain ⟨l, h1, h2⟩ := hlist len (Nat.le_refl _)
    have hsz : (m * P.bytesOf e) ≤ reachBytes := by
      apply hw
      simp only [DataW.weights, ht]
      refine List.mem_cons.2 (.inl ?_)
      simp
      congr 1
      omega
    refine ⟨l, ⟨some a, cap, by rw [h1], by omega, rfl, by simp only [maxLen] at hm; omega, fun _ => ⟨a, rfl, fun j p hj => ?_⟩⟩, by omega, Nat.le_trans (Nat.mul_le_mul_right _ (by omega)) hsz, fun p hp => ?_⟩
    · obtain ⟨c, h3, h4, h5⟩ := h2 j p hj
      refine ⟨c, d.K_len h4, h4, fun i u hu => ?_⟩
      obtain ⟨hcell, hlen, hc⟩ := World.cells?_some h3
      have hi : i < c.length := by
        rcases Nat.lt_or_ge i c.length with h | h
        · exact h
        · rw [List.getElem?_eq_none h] at hu; simp at hu
      have := hc i (by omega)
      rw [hu, add_add, hs] at this
      exact this
    · obtain ⟨j, hj⟩ := List.getElem?_of_mem hp
      obtain ⟨c, h3, h4, h5⟩ := h2 j p hj
      exact h5

/-! ### Structs -/
theorem weightsEach_app {H : Type} {P : Program} {t : TypeId} {d : DataW H} {ts : List TypeId} {ds : List (DataW H)} (n : Nat) : n ∈ DataW.weightsEach P (t :: ts) (d :: ds) ↔ n ∈ d.weights P t ∨ n ∈ DataW.weightsEach P ts ds := by
  simp only [DataW.weightsEach, List.mem_append]
/-- The fields from a place on. -/
structure Fits {α : Type} (P : Program) (off : Nat) (fs : List Field) (d : Kd α) (ok : α → Prop) : Prop where
  out : ∀ {H : Type} (enc : TypeId × Value → H) (W : World) (base : Nat) (spare : Nat → Bool) (held : Bool) (fuel : Nat) (cs : List Value) (xs : List (DataW H × List MemPlace)),
    fs.mapM (fun f => DataW.trod enc P W base spare held fuel f.type ((cs.drop f.offset).take (P.cellsOf f.type))) = some xs → (∀ n ∈ DataW.weightsEach P (fs.map (·.type)) (xs.map (·.1)), n ≤ reachBytes) →
    ∃ a, d.K W a ((cs.drop off).take d.sz) ∧ ok a
theorem fits_one {α : Type} {P : Program} {off : Nat} {f : Field} {d : Kd α} {ok : α → Prop} (ho : f.offset = off) (hs : P.cellsOf f.type = d.sz) (hd : Opens P f.type d ok) : Fits P off [f] d ok := by
  constructor
  intro H enc W base spare held fuel cs xs hx hw
  simp only [List.mapM_cons, List.mapM_nil, Option.bind_eq_bind, Option.pure_def] at hx
  obtain ⟨x, h1, h2⟩ := Option.bind_eq_some_iff.1 hx
  obtain ⟨ys, h3, h4⟩ := Option.bind_eq_some_iff.1 h2
  simp only [Option.some.injEq] at h3 h4
  subst h3
  subst h4
  rw [ho, hs] at h1
  exact hd.out enc W base spare held fuel _ x h1 (fun n hn => hw n (by simp only [List.map_cons]; exact (weightsEach_app n).2 (.inl hn)))
theorem fits_cons {α β : Type} {P : Program} {off : Nat} {f : Field} {fs : List Field} {d : Kd α} {e : Kd β} {ok : α → Prop} {ok' : β → Prop} (ho : f.offset = off) (hs : P.cellsOf f.type = d.sz) (hd : Opens P f.type d ok) (hr : Fits P (off + d.sz) fs e ok') : Fits P off (f :: fs) (Kd.pair d e) (fun x => ok x.1 ∧ ok' x.2) := by
  constructor
  intro H enc W base spare held fuel cs xs hx hw
  simp only [List.mapM_cons, Option.bind_eq_bind, Option.pure_def] at hx
  obtain ⟨x, h1, h2⟩ := Option.bind_eq_some_iff.1 hx
  obtain ⟨ys, h3, h4⟩ := Option.bind_eq_some_iff.1 h2
  simp only [Option.some.injEq] at h4
  subst h4
  rw [ho, hs] at h1
  obtain ⟨a, k1, o1⟩ := hd.out enc W base spare held fuel _ x h1 (fun n hn => hw n (by simp only [List.map_cons]; exact (weightsEach_app n).2 (.inl hn)))
  obtain ⟨b, k2, o2⟩ := hr.out enc W base spare held fuel cs ys h3 (fun n hn => hw n (by simp only [List.map_cons]; exact (weightsEach_app n).2 (.inr hn)))
  refine ⟨(a, b), ⟨_, _, ?_, k1, k2⟩, o1, o2⟩
  show (cs.drop off).take (d.sz + e.sz) = _
  rw [List.take_add, List.drop_drop]
theorem opens_struct {α : Type} {P : Program} {t : TypeId} {fs : Array Field} {d : Kd α} {ok : α → Prop} (ht : P.underlying t = some (.struct fs)) (hs : P.cellsOf t = d.sz) (hf : Fits P 0 fs.toList d ok) : Opens P t d ok := by
  constructor
  intro H enc W base spare held fuel cs x hx hw
  cases fuel with
  | zero => simp [DataW.trod] at hx
  | succ fuel =>
    simp only [DataW.trod, ht] at hx
    split at hx
    · rename_i hl
      obtain ⟨xs, h1, h2⟩ := Option.map_eq_some_iff.1 hx
      subst h2
      obtain ⟨a, k1, o1⟩ := hf.out enc W base spare held fuel cs xs h1 (fun n hn => hw n (by simp only [DataW.weights, ht]; exact hn))
      rw [List.drop_zero, ← hs, ← hl, List.take_length] at k1
      exact ⟨a, k1, o1⟩
    · simp at hx
theorem opens_iso {α β : Type} {P : Program} {t : TypeId} {d : Kd α} {ok : α → Prop} (h : Opens P t d ok) (g : β → α) (b : α → β) (gb : ∀ a, g (b a) = a) : Opens P t (Kd.iso d g) (fun x => ok (g x)) := by
  constructor
  intro H enc W base spare held fuel cs x hx hw
  obtain ⟨a, k, o⟩ := h.out enc W base spare held fuel cs x hx hw
  refine ⟨b a, ?_, ?_⟩
  · show d.K W (g (b a)) cs
    rw [gb]
    exact k
  · show ok (g (b a))
    rw [gb]
    exact o

end Go.Proofs.Ytjehijlpdeadiaa.Opn
