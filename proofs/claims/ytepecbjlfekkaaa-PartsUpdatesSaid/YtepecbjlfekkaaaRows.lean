/-
  No cell of these rows narrows 'for every input' (looked for: loops, veiled, ifaces, maps, wideKeys, modest, calm, conditions, laid).
  DERIVED. THE GIVEN ROWS OF THIS SEAT. 8 by the template 'for every input the law returns true; each argument reads behind the call as it read before'; 0 by the template 'total and deterministic' (their statements: YtepecbjlfekkaaaTotals.lean).
  GIVEN WITH THE SEED: the statements are not yours to turn. If you find one false, say at which input.
  Laid BY PROGRAM, IN A SANDBOX (cutbox-rows.mjs): the forced cells as the released guide's own fill.sh prints them over the translation 29640d2841791736… (all of the seat's roots in one cut). By AI agents, Wed Nov 11 2026. No macro, syntax, notation, axiom, sorry.
-/
import Derived.Test.YtepecbjlfekkaaaChecked
import GoSem.Claim
import GoSem.ClaimJoined
import GoSem.ClaimMapViews
import Derived.JoinedTies
import Derived.KernelRfl
namespace Go.Proofs.Ytepecbjlfekkaaa
/- THE CELL 'sum', in the pinned program and in every row, IS THE sha256 OF THE DUMP (.gsa) THAT YtepecbjlfekkaaaProg.lean LOADS. Nothing in Lean hashes anything: it is a label: what it is worth is what the hold of that sum in a sandbox is worth. -/
noncomputable def Try.pinned : Pinned := { name := "ytepecbjlfekkaaa", sum := "29640d2841791736c110a7c14b4e9b58acb848db975f75d575e85739583c239e", checked := Try.checked }
namespace Rows
def none {H : Type} : Left H := { results := [], args := [] }

/-- 'phalanxlaw08.PartsJoined': WHATEVER THE INPUT: true; the input reads as it did. -/
def partsJoinedSpec : ChangeSpec := { name := "partsJoined", fn := fun _ => fun
  | [d1, d2, d3] => { results := [.lit (.bool true)], args := [d1, d2, d3] }
  | _ => none }
def partsJoinedRow : OpenClaim := { program := "ytepecbjlfekkaaa", sum := "29640d2841791736c110a7c14b4e9b58acb848db975f75d575e85739583c239e", func := "phalanx/phalanxlaw08.PartsJoined", spec := "partsJoined", unfollowed := true, recurses := true, plainKeys := false, apart := false }
def PartsJoinedSaid : Prop := partsJoinedRow.holds Try.pinned (OpenSpec.ofChange partsJoinedSpec)

/-- ITS FALSE NEIGHBOUR: 'it returns false'. Refute it at one input. -/
def partsJoinedWrong : ChangeSpec := { name := "partsJoined", fn := fun _ => fun
  | [d1, d2, d3] => { results := [.lit (.bool false)], args := [d1, d2, d3] }
  | _ => none }
def PartsJoinedWrongFalsely : Prop := partsJoinedRow.holds Try.pinned (OpenSpec.ofChange partsJoinedWrong)

/-- 'phalanxlaw15.SmoothLines': WHATEVER THE INPUT: true; the input reads as it did. -/
def smoothLinesSpec : ChangeSpec := { name := "smoothLines", fn := fun _ => fun
  | [d1, d2] => { results := [.lit (.bool true)], args := [d1, d2] }
  | _ => none }
def smoothLinesRow : OpenClaim := { program := "ytepecbjlfekkaaa", sum := "29640d2841791736c110a7c14b4e9b58acb848db975f75d575e85739583c239e", func := "phalanx/phalanxlaw15.SmoothLines", spec := "smoothLines", unfollowed := true, recurses := true, plainKeys := false, apart := false }
def SmoothLinesSaid : Prop := smoothLinesRow.holds Try.pinned (OpenSpec.ofChange smoothLinesSpec)

/-- ITS FALSE NEIGHBOUR: 'it returns false'. Refute it at one input. -/
def smoothLinesWrong : ChangeSpec := { name := "smoothLines", fn := fun _ => fun
  | [d1, d2] => { results := [.lit (.bool false)], args := [d1, d2] }
  | _ => none }
def SmoothLinesWrongFalsely : Prop := smoothLinesRow.holds Try.pinned (OpenSpec.ofChange smoothLinesWrong)

/-- 'phalanxlaw15.SmoothSmooths': WHATEVER THE INPUT: true; the input reads as it did. -/
def smoothSmoothsSpec : ChangeSpec := { name := "smoothSmooths", fn := fun _ => fun
  | [d1, d2] => { results := [.lit (.bool true)], args := [d1, d2] }
  | _ => none }
def smoothSmoothsRow : OpenClaim := { program := "ytepecbjlfekkaaa", sum := "29640d2841791736c110a7c14b4e9b58acb848db975f75d575e85739583c239e", func := "phalanx/phalanxlaw15.SmoothSmooths", spec := "smoothSmooths", unfollowed := true, recurses := true, plainKeys := false, apart := false }
def SmoothSmoothsSaid : Prop := smoothSmoothsRow.holds Try.pinned (OpenSpec.ofChange smoothSmoothsSpec)

/-- ITS FALSE NEIGHBOUR: 'it returns false'. Refute it at one input. -/
def smoothSmoothsWrong : ChangeSpec := { name := "smoothSmooths", fn := fun _ => fun
  | [d1, d2] => { results := [.lit (.bool false)], args := [d1, d2] }
  | _ => none }
def SmoothSmoothsWrongFalsely : Prop := smoothSmoothsRow.holds Try.pinned (OpenSpec.ofChange smoothSmoothsWrong)

/-- 'phalanxlaw15.SmoothCheaper': WHATEVER THE INPUT: true; the input reads as it did. -/
def smoothCheaperSpec : ChangeSpec := { name := "smoothCheaper", fn := fun _ => fun
  | [d1, d2] => { results := [.lit (.bool true)], args := [d1, d2] }
  | _ => none }
def smoothCheaperRow : OpenClaim := { program := "ytepecbjlfekkaaa", sum := "29640d2841791736c110a7c14b4e9b58acb848db975f75d575e85739583c239e", func := "phalanx/phalanxlaw15.SmoothCheaper", spec := "smoothCheaper", unfollowed := true, recurses := true, plainKeys := false, apart := false }
def SmoothCheaperSaid : Prop := smoothCheaperRow.holds Try.pinned (OpenSpec.ofChange smoothCheaperSpec)

/-- ITS FALSE NEIGHBOUR: 'it returns false'. Refute it at one input. -/
def smoothCheaperWrong : ChangeSpec := { name := "smoothCheaper", fn := fun _ => fun
  | [d1, d2] => { results := [.lit (.bool false)], args := [d1, d2] }
  | _ => none }
def SmoothCheaperWrongFalsely : Prop := smoothCheaperRow.holds Try.pinned (OpenSpec.ofChange smoothCheaperWrong)

/-- 'phalanxlaw08.PartsLabels': WHATEVER THE INPUT: true; the input reads as it did. -/
def partsLabelsSpec : ChangeSpec := { name := "partsLabels", fn := fun _ => fun
  | [d1, d2] => { results := [.lit (.bool true)], args := [d1, d2] }
  | _ => none }
def partsLabelsRow : OpenClaim := { program := "ytepecbjlfekkaaa", sum := "29640d2841791736c110a7c14b4e9b58acb848db975f75d575e85739583c239e", func := "phalanx/phalanxlaw08.PartsLabels", spec := "partsLabels", unfollowed := true, recurses := true, plainKeys := false, apart := false }
def PartsLabelsSaid : Prop := partsLabelsRow.holds Try.pinned (OpenSpec.ofChange partsLabelsSpec)

/-- ITS FALSE NEIGHBOUR: 'it returns false'. Refute it at one input. -/
def partsLabelsWrong : ChangeSpec := { name := "partsLabels", fn := fun _ => fun
  | [d1, d2] => { results := [.lit (.bool false)], args := [d1, d2] }
  | _ => none }
def PartsLabelsWrongFalsely : Prop := partsLabelsRow.holds Try.pinned (OpenSpec.ofChange partsLabelsWrong)

/-- 'phalanxlaw15.SmoothTurns': WHATEVER THE INPUT: true; the input reads as it did. -/
def smoothTurnsSpec : ChangeSpec := { name := "smoothTurns", fn := fun _ => fun
  | [d1, d2] => { results := [.lit (.bool true)], args := [d1, d2] }
  | _ => none }
def smoothTurnsRow : OpenClaim := { program := "ytepecbjlfekkaaa", sum := "29640d2841791736c110a7c14b4e9b58acb848db975f75d575e85739583c239e", func := "phalanx/phalanxlaw15.SmoothTurns", spec := "smoothTurns", unfollowed := true, recurses := true, plainKeys := false, apart := false }
def SmoothTurnsSaid : Prop := smoothTurnsRow.holds Try.pinned (OpenSpec.ofChange smoothTurnsSpec)

/-- ITS FALSE NEIGHBOUR: 'it returns false'. Refute it at one input. -/
def smoothTurnsWrong : ChangeSpec := { name := "smoothTurns", fn := fun _ => fun
  | [d1, d2] => { results := [.lit (.bool false)], args := [d1, d2] }
  | _ => none }
def SmoothTurnsWrongFalsely : Prop := smoothTurnsRow.holds Try.pinned (OpenSpec.ofChange smoothTurnsWrong)

/-- 'phalanxlaw08.PartsNobody': WHATEVER THE INPUT: true; the input reads as it did. -/
def partsNobodySpec : ChangeSpec := { name := "partsNobody", fn := fun _ => fun
  | [d1, d2] => { results := [.lit (.bool true)], args := [d1, d2] }
  | _ => none }
def partsNobodyRow : OpenClaim := { program := "ytepecbjlfekkaaa", sum := "29640d2841791736c110a7c14b4e9b58acb848db975f75d575e85739583c239e", func := "phalanx/phalanxlaw08.PartsNobody", spec := "partsNobody", unfollowed := true, recurses := true, plainKeys := false, apart := false }
def PartsNobodySaid : Prop := partsNobodyRow.holds Try.pinned (OpenSpec.ofChange partsNobodySpec)

/-- ITS FALSE NEIGHBOUR: 'it returns false'. Refute it at one input. -/
def partsNobodyWrong : ChangeSpec := { name := "partsNobody", fn := fun _ => fun
  | [d1, d2] => { results := [.lit (.bool false)], args := [d1, d2] }
  | _ => none }
def PartsNobodyWrongFalsely : Prop := partsNobodyRow.holds Try.pinned (OpenSpec.ofChange partsNobodyWrong)

/-- 'phalanxlaw08.PartsUpdates': WHATEVER THE INPUT: true; the input reads as it did. -/
def partsUpdatesSpec : ChangeSpec := { name := "partsUpdates", fn := fun _ => fun
  | [d1, d2, d3] => { results := [.lit (.bool true)], args := [d1, d2, d3] }
  | _ => none }
def partsUpdatesRow : OpenClaim := { program := "ytepecbjlfekkaaa", sum := "29640d2841791736c110a7c14b4e9b58acb848db975f75d575e85739583c239e", func := "phalanx/phalanxlaw08.PartsUpdates", spec := "partsUpdates", unfollowed := true, recurses := true, plainKeys := false, apart := false }
def PartsUpdatesSaid : Prop := partsUpdatesRow.holds Try.pinned (OpenSpec.ofChange partsUpdatesSpec)

/-- ITS FALSE NEIGHBOUR: 'it returns false'. Refute it at one input. -/
def partsUpdatesWrong : ChangeSpec := { name := "partsUpdates", fn := fun _ => fun
  | [d1, d2, d3] => { results := [.lit (.bool false)], args := [d1, d2, d3] }
  | _ => none }
def PartsUpdatesWrongFalsely : Prop := partsUpdatesRow.holds Try.pinned (OpenSpec.ofChange partsUpdatesWrong)

/- THE SECOND FORM. 'bulk': how many values and letters a reading holds, each counted each time it is reached (what is shared counts as often as it is met; a slice's spare places count too). A statement '..UptoSaid' is the law's where the arguments, and the package variables that the reading takes, are together of bulk at most 1048576: NARROWER than '..Said'. Prove '..Said' where nothing that the law and all that it calls make is longer than what came in: it says more and counts as full. Else prove '..UptoSaid'. A law counts once. -/
mutual
def uptoBulk {H : Type} : DataW H → Nat
  | .lit (.string bytes) => bytes.length + 1
  | .lit _ => 1
  | .nil => 1
  | .ptr d => uptoBulk d + 1
  | .slice elems spare => uptoBulkAll elems + uptoBulkAll spare + 1
  | .agg parts => uptoBulkAll parts + 1
  | .iface _ d => uptoBulk d + 1
  | .map entries => uptoBulkEntries entries + 1
  | .held _ => 1
def uptoBulkAll {H : Type} : List (DataW H) → Nat
  | [] => 0
  | d :: r => uptoBulk d + uptoBulkAll r
def uptoBulkEntries {H : Type} : List (Lit × DataW H) → Nat
  | [] => 0
  | x :: r => uptoBulkEntry x + uptoBulkEntries r
def uptoBulkEntry {H : Type} : Lit × DataW H → Nat
  | (.string bytes, d) => bytes.length + uptoBulk d + 1
  | (_, d) => uptoBulk d + 1
 end
def uptoSmall : (H : Type) → List (DataW H) → Bool := fun _ ds => decide (uptoBulkAll ds ≤ 1048576)
def OpenSpec.upto (s : _root_.Go.ChangeSpec) : _root_.Go.OpenSpec := { _root_.Go.OpenSpec.ofChange s with cond := some uptoSmall }

/-- 'phalanxlaw08.PartsJoined', WHERE WHAT IT READS IS OF BULK AT MOST 1048576: true; the input reads as it did. -/
def partsJoinedUptoRow : OpenClaim := { program := "ytepecbjlfekkaaa", sum := "29640d2841791736c110a7c14b4e9b58acb848db975f75d575e85739583c239e", func := "phalanx/phalanxlaw08.PartsJoined", spec := "partsJoined", unfollowed := true, recurses := true, plainKeys := false, apart := false, narrowed := true }
def PartsJoinedUptoSaid : Prop := partsJoinedUptoRow.holds Try.pinned (OpenSpec.upto partsJoinedSpec)

/-- 'phalanxlaw15.SmoothLines', WHERE WHAT IT READS IS OF BULK AT MOST 1048576: true; the input reads as it did. -/
def smoothLinesUptoRow : OpenClaim := { program := "ytepecbjlfekkaaa", sum := "29640d2841791736c110a7c14b4e9b58acb848db975f75d575e85739583c239e", func := "phalanx/phalanxlaw15.SmoothLines", spec := "smoothLines", unfollowed := true, recurses := true, plainKeys := false, apart := false, narrowed := true }
def SmoothLinesUptoSaid : Prop := smoothLinesUptoRow.holds Try.pinned (OpenSpec.upto smoothLinesSpec)

/-- 'phalanxlaw15.SmoothSmooths', WHERE WHAT IT READS IS OF BULK AT MOST 1048576: true; the input reads as it did. -/
def smoothSmoothsUptoRow : OpenClaim := { program := "ytepecbjlfekkaaa", sum := "29640d2841791736c110a7c14b4e9b58acb848db975f75d575e85739583c239e", func := "phalanx/phalanxlaw15.SmoothSmooths", spec := "smoothSmooths", unfollowed := true, recurses := true, plainKeys := false, apart := false, narrowed := true }
def SmoothSmoothsUptoSaid : Prop := smoothSmoothsUptoRow.holds Try.pinned (OpenSpec.upto smoothSmoothsSpec)

/-- 'phalanxlaw15.SmoothCheaper', WHERE WHAT IT READS IS OF BULK AT MOST 1048576: true; the input reads as it did. -/
def smoothCheaperUptoRow : OpenClaim := { program := "ytepecbjlfekkaaa", sum := "29640d2841791736c110a7c14b4e9b58acb848db975f75d575e85739583c239e", func := "phalanx/phalanxlaw15.SmoothCheaper", spec := "smoothCheaper", unfollowed := true, recurses := true, plainKeys := false, apart := false, narrowed := true }
def SmoothCheaperUptoSaid : Prop := smoothCheaperUptoRow.holds Try.pinned (OpenSpec.upto smoothCheaperSpec)

/-- 'phalanxlaw08.PartsLabels', WHERE WHAT IT READS IS OF BULK AT MOST 1048576: true; the input reads as it did. -/
def partsLabelsUptoRow : OpenClaim := { program := "ytepecbjlfekkaaa", sum := "29640d2841791736c110a7c14b4e9b58acb848db975f75d575e85739583c239e", func := "phalanx/phalanxlaw08.PartsLabels", spec := "partsLabels", unfollowed := true, recurses := true, plainKeys := false, apart := false, narrowed := true }
def PartsLabelsUptoSaid : Prop := partsLabelsUptoRow.holds Try.pinned (OpenSpec.upto partsLabelsSpec)

/-- 'phalanxlaw15.SmoothTurns', WHERE WHAT IT READS IS OF BULK AT MOST 1048576: true; the input reads as it did. -/
def smoothTurnsUptoRow : OpenClaim := { program := "ytepecbjlfekkaaa", sum := "29640d2841791736c110a7c14b4e9b58acb848db975f75d575e85739583c239e", func := "phalanx/phalanxlaw15.SmoothTurns", spec := "smoothTurns", unfollowed := true, recurses := true, plainKeys := false, apart := false, narrowed := true }
def SmoothTurnsUptoSaid : Prop := smoothTurnsUptoRow.holds Try.pinned (OpenSpec.upto smoothTurnsSpec)

/-- 'phalanxlaw08.PartsNobody', WHERE WHAT IT READS IS OF BULK AT MOST 1048576: true; the input reads as it did. -/
def partsNobodyUptoRow : OpenClaim := { program := "ytepecbjlfekkaaa", sum := "29640d2841791736c110a7c14b4e9b58acb848db975f75d575e85739583c239e", func := "phalanx/phalanxlaw08.PartsNobody", spec := "partsNobody", unfollowed := true, recurses := true, plainKeys := false, apart := false, narrowed := true }
def PartsNobodyUptoSaid : Prop := partsNobodyUptoRow.holds Try.pinned (OpenSpec.upto partsNobodySpec)

/-- 'phalanxlaw08.PartsUpdates', WHERE WHAT IT READS IS OF BULK AT MOST 1048576: true; the input reads as it did. -/
def partsUpdatesUptoRow : OpenClaim := { program := "ytepecbjlfekkaaa", sum := "29640d2841791736c110a7c14b4e9b58acb848db975f75d575e85739583c239e", func := "phalanx/phalanxlaw08.PartsUpdates", spec := "partsUpdates", unfollowed := true, recurses := true, plainKeys := false, apart := false, narrowed := true }
def PartsUpdatesUptoSaid : Prop := partsUpdatesUptoRow.holds Try.pinned (OpenSpec.upto partsUpdatesSpec)

end Rows
end Go.Proofs.Ytepecbjlfekkaaa
