import Derived.Test.YtjehijlpdeadiaaShWA5
set_option linter.all false
set_option linter.unusedVariables false
set_option linter.unusedSimpArgs false
set_option autoImplicit false
namespace Go.Sh.T
open Go.Sh
set_option maxHeartbeats 8000000
set_option maxRecDepth 20000
theorem slB_cases {α : Type} (d : Fl α) (s : Sl α) : slB d s = [] ∨ slB d s = [s.l.flatMap d.enc] := by
  unfold slB; split <;> simp
theorem one_block {n0 : In} {cs : List SV} (h : n0.map (·.2) = [cs]) : ∃ t, n0 = [(t, cs)] := by
  match n0, h with
  | [x], h => simp at h; exact ⟨x.1, by rw [← h]⟩
/-- A slice that came in, its block behind those of pre. -/
theorem sl_in {P : Program} {e : TypeId} {ok : Int × Int → Prop} {s : Sl (Int × Int)} (hok : slOk P e ok s) {pre n0 post : In} (e0 : n0.map (·.2) = slB cellF s) : LiesD cellF (In.mem (pre ++ n0 ++ post)) (slV cellF s pre.length) s.l := by
  refine lies_in cellF_even hok.2.2.2.1 hok.2.2.2.2 ?_
  rcases slB_cases cellF s with h | h
  · exact .inl h
  · refine .inr ⟨_, h, ?_⟩
    rw [h] at e0
    obtain ⟨t, rfl⟩ := one_block e0
    exact In.get (x := (t, _)) (by simp only [List.append_assoc, List.getElem?_append_right (Nat.le_refl _), Nat.sub_self]; rfl)
theorem sl_bound {P : Program} {e : TypeId} {ok : Int × Int → Prop} {s : Sl (Int × Int)} (hok : slOk P e ok s) (h16 : P.bytesOf e = 16) : 2 * s.l.length * 16 ≤ two48 := by
  have := hok.2.1
  rw [h16] at this
  simp only [two48, reachBytes, maxLen] at *
  omega
theorem law16_CacheOwns {P : Program} {e' : TypeId} {ok' : Int × Int → Prop} (a b c d e g ep : Int) (s : Sl (Int × Int)) (hok' : slOk P e' ok' s) (h16' : P.bytesOf e' = 16) {n0 n1 n2 : In} (e2 : n2.map (·.2) = slB cellF s) : ∃ m', RF tb f_law16_CacheOwns [keyV a b c d e g, .int .i64 ep, slV cellF s ([] ++ n0 ++ n1).length] (In.mem ([] ++ n0 ++ n1 ++ n2)) = some (.bool true, m') := by
  have hq := sl_in hok' (pre := [] ++ n0 ++ n1) (post := []) e2
  rw [List.append_nil] at hq
  exact law16_ex (r_law16_CacheOwns hq (sl_bound hok' h16') (In.wf _) (Nat.zero_le _) _ _ _ _ _ _ _)
end Go.Sh.T
