/- SlotsLayouts: for any group and any place, package slots and the reference tell one and the same cells, error and columns. Conditions: none. -/
import Derived.Test.YtjehijlpdeadiaaM17a
set_option linter.unusedVariables false
set_option linter.unusedSimpArgs false
namespace Go.Proofs.Ytjehijlpdeadiaa.Pure
open Go.RowKit Go.Proofs.Ytjehijlpdeadiaa.P17 Go.Proofs.Ytjehijlpdeadiaa.M17 Go.Proofs.YtjehijlpdeadiaaW.PrintWords

theorem sl_loop {l : List S25} (hl : l.length ≤ 64) (e : Int) : ∀ (m : Nat) (i : Int), -1 ≤ i → i + m = 66 → Ev (fun k => phalanxlaw17_SlotsLayouts.l0 k l e l e i) true
  | 0, i, h0, h => by
    have e2 : ∀ k, phalanxlaw17_SlotsLayouts.l0 (k + 1) l e l e i = (phalanxref10_Cells.f k l l).bind fun t149 => (if t149 = true then ((phalanxlaw17_awake.f k).bind fun t150 => (some t150)) else (some false)) := by
      intro k
      rw [phalanxlaw17_SlotsLayouts.l0, if_neg (by omega), if_pos rfl]
    refine Ev.step e2 (Ev.bind (a := true) ?_ ?_)
    · exact Ev.congr (fun k => if_pos rfl) (ev_same hl l.length 0 (by omega))
    · exact Ev.congr (fun k => if_pos rfl) (Ev.bind ev_awake (Ev.now _))
  | m + 1, i, h0, h => by
    have e2 : ∀ k, phalanxlaw17_SlotsLayouts.l0 (k + 1) l e l e i = (slots_Columns.f k i).bind fun t151 => ((phalanxref17_Columns.f k i).bind fun t152 => (if t151 = t152 then (phalanxlaw17_SlotsLayouts.l0 k l e l e (i + 1)) else (some false))) := by
      intro k
      rw [phalanxlaw17_SlotsLayouts.l0, if_pos (by omega), w_small (n := i + 1) (by omega) (by omega)]
    exact Ev.step e2 (Ev.bind (ev_col h0 (by omega)) (Ev.bind (ev_colr h0 (by omega)) (Ev.congr (fun k => if_pos rfl) (sl_loop hl e m (i + 1) (by omega) (by omega)))))

theorem SlotsLayouts : phalanxlaw17_SlotsLayouts.Pure := by
  intro l X Y _ _ _ _ _
  have h : Ev (fun k => phalanxlaw17_SlotsLayouts.f k l X Y) true :=
    Ev.bind (ev_lay l X Y) (Ev.bind (ev_layr l X Y) (sl_loop (lay_length l X Y) _ 67 (-1) (by omega) (by omega)))
  exact h.rounds
end Go.Proofs.Ytjehijlpdeadiaa.Pure
