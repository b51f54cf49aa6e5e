import Derived.Test.YtnogldcjbkiboaaShWD9
set_option linter.all false
set_option linter.unusedVariables false
set_option linter.unusedSimpArgs false
set_option autoImplicit false
namespace Go.Sh.T
open Go.Sh
set_option maxHeartbeats 8000000
set_option maxRecDepth 20000
abbrev UT := Int × Int × (Int × Int) × (Int × Int) × Int × (Int × Int) × Sl (Int × Int) × Int
abbrev rdU : Rd UT := Rd.pair (Rd.flat (Fl.int .i64)) (Rd.pair (Rd.flat (Fl.int .i64)) (Rd.pair (Rd.flat cellF) (Rd.pair (Rd.flat cellF) (Rd.pair (Rd.flat (Fl.int .i64)) (Rd.pair (Rd.flat cellF) (Rd.pair (Rd.slice cellF) (Rd.flat (Fl.int .i64))))))))
def UT.path (u : UT) : Sl (Int × Int) := u.2.2.2.2.2.2.1
abbrev UT.v (u : UT) (p : SV) : SV := unitV u.1 u.2.1 u.2.2.1.1 u.2.2.1.2 u.2.2.2.1.1 u.2.2.2.1.2 u.2.2.2.2.1 u.2.2.2.2.2.1.1 u.2.2.2.2.2.1.2 p u.2.2.2.2.2.2.2
theorem rdU_cells (u : UT) (n : Nat) : (SV.agg (rdU.cells u n)) = u.v (slV cellF u.path n) := rfl
theorem rdU_blks (u : UT) (n : Nat) : rdU.blks u n = slB cellF u.path := by simp [rdU, Rd.pair, Rd.flat, Rd.slice, UT.path]
theorem slB_cases {α : Type} (d : Fl α) (s : Sl α) : slB d s = [] ∨ slB d s = [s.l.flatMap d.enc] := by
  unfold slB; split <;> simp
theorem one_block {n0 : In} {cs : List SV} (h : n0.map (·.2) = [cs]) : ∃ t, n0 = [(t, cs)] := by
  match n0, h with
  | [x], h => simp at h; exact ⟨x.1, by rw [← h]⟩
/-- A slice that came in, its block behind those of pre. -/
theorem sl_in {P : Program} {e : TypeId} {ok : Int × Int → Prop} {s : Sl (Int × Int)} (hok : slOk P e ok s) {pre n0 post : In} (e0 : n0.map (·.2) = slB cellF s) : LiesD cellF (In.mem (pre ++ n0 ++ post)) (slV cellF s pre.length) s.l := by
  refine lies_in cellF_even hok.2.2.2.1 hok.2.2.2.2 ?_
  rcases slB_cases cellF s with h | h
  · exact .inl h
  · refine .inr ⟨_, h, ?_⟩
    rw [h] at e0
    obtain ⟨t, rfl⟩ := one_block e0
    exact In.get (x := (t, _)) (by simp only [List.append_assoc, List.getElem?_append_right (Nat.le_refl _), Nat.sub_self]; rfl)
theorem sl_bound {P : Program} {e : TypeId} {ok : Int × Int → Prop} {s : Sl (Int × Int)} (hok : slOk P e ok s) (h16 : P.bytesOf e = 16) : 2 * s.l.length * 16 ≤ two48 := by
  have := hok.2.1
  rw [h16] at this
  simp only [two48, reachBytes, maxLen] at *
  omega
theorem law21_UnitChecks {P : Program} {e : TypeId} {ok : Int × Int → Prop} (u : UT) (hok : slOk P e ok u.path) (h16 : P.bytesOf e = 16) {n0 : In} (e0 : n0.map (·.2) = rdU.blks u 0) : ∃ m', RF tb f_law21_UnitChecks [.agg (rdU.cells u 0)] (In.mem ([] ++ n0)) = some (.bool true, m') := by
  rw [rdU_blks] at e0
  have hp := sl_in hok (pre := []) (post := []) e0
  rw [List.append_nil] at hp
  exact ex_of (r_law21_UnitChecks hp (sl_bound hok h16) (In.wf _) _ _ _ _ _ _ _ _ _ _)
theorem law21_UnitAims {P : Program} {e : TypeId} {ok : Int × Int → Prop} (u : UT) (g : Int × Int) (hok : slOk P e ok u.path) {n0 n1 : In} (e0 : n0.map (·.2) = rdU.blks u 0) : ∃ m', RF tb f_law21_UnitAims [.agg (rdU.cells u 0), .agg [.int .i64 g.1, .int .i64 g.2]] (In.mem ([] ++ n0 ++ n1)) = some (.bool true, m') := by
  rw [rdU_blks] at e0
  have hp := sl_in hok (pre := []) (post := n1) e0
  exact ex_of (r_law21_UnitAims hp (In.wf _) _ _ _ _ _ _ _ _ _ _ _ _)
end Go.Sh.T
