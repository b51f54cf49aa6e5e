/-
  No cell of these rows narrows 'for every input' (looked for: loops, veiled, ifaces, maps, wideKeys, modest, calm, conditions, laid).
  DERIVED. THE GIVEN ROWS OF THIS SEAT. 9 by the template 'for every input the law returns true; each argument reads behind the call as it read before'; 0 by the template 'total and deterministic' (their statements: YtkfgphiegkdohaaTotals.lean).
  GIVEN WITH THE SEED: the statements are not yours to turn. If you find one false, say at which input.
  Laid BY PROGRAM, IN A SANDBOX (cutbox-rows.mjs): the forced cells as the released guide's own fill.sh prints them over the translation a7648151484aa8f1… (all of the seat's roots in one cut). By AI agents, Wed Nov 11 2026. No macro, syntax, notation, axiom, sorry.
-/
import Derived.Test.YtkfgphiegkdohaaChecked
import GoSem.Claim
import GoSem.ClaimJoined
import GoSem.ClaimMapViews
import Derived.JoinedTies
import Derived.KernelRfl
namespace Go.Proofs.Ytkfgphiegkdohaa
/- THE CELL 'sum', in the pinned program and in every row, IS THE sha256 OF THE DUMP (.gsa) THAT YtkfgphiegkdohaaProg.lean LOADS. Nothing in Lean hashes anything: it is a label: what it is worth is what the hold of that sum in a sandbox is worth. -/
noncomputable def Try.pinned : Pinned := { name := "ytkfgphiegkdohaa", sum := "a7648151484aa8f1bf6cc252ec513a0ae7d100577cecbe911c635903849478de", checked := Try.checked }
namespace Rows
def none {H : Type} : Left H := { results := [], args := [] }

/-- 'phalanxlaw06.ClassShapes': WHATEVER THE INPUT: true; the input reads as it did. -/
def classShapesSpec : ChangeSpec := { name := "classShapes", fn := fun _ => fun
  | [d1, d2, d3] => { results := [.lit (.bool true)], args := [d1, d2, d3] }
  | _ => none }
def classShapesRow : OpenClaim := { program := "ytkfgphiegkdohaa", sum := "a7648151484aa8f1bf6cc252ec513a0ae7d100577cecbe911c635903849478de", func := "phalanx/phalanxlaw06.ClassShapes", spec := "classShapes", unfollowed := true, recurses := true, plainKeys := false, apart := false }
def ClassShapesSaid : Prop := classShapesRow.holds Try.pinned (OpenSpec.ofChange classShapesSpec)

/-- ITS FALSE NEIGHBOUR: 'it returns false'. Refute it at one input. -/
def classShapesWrong : ChangeSpec := { name := "classShapes", fn := fun _ => fun
  | [d1, d2, d3] => { results := [.lit (.bool false)], args := [d1, d2, d3] }
  | _ => none }
def ClassShapesWrongFalsely : Prop := classShapesRow.holds Try.pinned (OpenSpec.ofChange classShapesWrong)

/-- 'phalanxlaw06.ClassStands': WHATEVER THE INPUT: true; the input reads as it did. -/
def classStandsSpec : ChangeSpec := { name := "classStands", fn := fun _ => fun
  | [d1, d2, d3] => { results := [.lit (.bool true)], args := [d1, d2, d3] }
  | _ => none }
def classStandsRow : OpenClaim := { program := "ytkfgphiegkdohaa", sum := "a7648151484aa8f1bf6cc252ec513a0ae7d100577cecbe911c635903849478de", func := "phalanx/phalanxlaw06.ClassStands", spec := "classStands", unfollowed := true, recurses := true, plainKeys := false, apart := false }
def ClassStandsSaid : Prop := classStandsRow.holds Try.pinned (OpenSpec.ofChange classStandsSpec)

/-- ITS FALSE NEIGHBOUR: 'it returns false'. Refute it at one input. -/
def classStandsWrong : ChangeSpec := { name := "classStands", fn := fun _ => fun
  | [d1, d2, d3] => { results := [.lit (.bool false)], args := [d1, d2, d3] }
  | _ => none }
def ClassStandsWrongFalsely : Prop := classStandsRow.holds Try.pinned (OpenSpec.ofChange classStandsWrong)

/-- 'phalanxlaw07.ClearCounts': WHATEVER THE INPUT: true; the input reads as it did. -/
def clearCountsSpec : ChangeSpec := { name := "clearCounts", fn := fun _ => fun
  | [d1, d2, d3] => { results := [.lit (.bool true)], args := [d1, d2, d3] }
  | _ => none }
def clearCountsRow : OpenClaim := { program := "ytkfgphiegkdohaa", sum := "a7648151484aa8f1bf6cc252ec513a0ae7d100577cecbe911c635903849478de", func := "phalanx/phalanxlaw07.ClearCounts", spec := "clearCounts", unfollowed := true, recurses := true, plainKeys := false, apart := false }
def ClearCountsSaid : Prop := clearCountsRow.holds Try.pinned (OpenSpec.ofChange clearCountsSpec)

/-- ITS FALSE NEIGHBOUR: 'it returns false'. Refute it at one input. -/
def clearCountsWrong : ChangeSpec := { name := "clearCounts", fn := fun _ => fun
  | [d1, d2, d3] => { results := [.lit (.bool false)], args := [d1, d2, d3] }
  | _ => none }
def ClearCountsWrongFalsely : Prop := clearCountsRow.holds Try.pinned (OpenSpec.ofChange clearCountsWrong)

/-- 'phalanxlaw07.ClearOf': WHATEVER THE INPUT: true; the input reads as it did. -/
def clearOfSpec : ChangeSpec := { name := "clearOf", fn := fun _ => fun
  | [d1, d2, d3] => { results := [.lit (.bool true)], args := [d1, d2, d3] }
  | _ => none }
def clearOfRow : OpenClaim := { program := "ytkfgphiegkdohaa", sum := "a7648151484aa8f1bf6cc252ec513a0ae7d100577cecbe911c635903849478de", func := "phalanx/phalanxlaw07.ClearOf", spec := "clearOf", unfollowed := true, recurses := true, plainKeys := false, apart := false }
def ClearOfSaid : Prop := clearOfRow.holds Try.pinned (OpenSpec.ofChange clearOfSpec)

/-- ITS FALSE NEIGHBOUR: 'it returns false'. Refute it at one input. -/
def clearOfWrong : ChangeSpec := { name := "clearOf", fn := fun _ => fun
  | [d1, d2, d3] => { results := [.lit (.bool false)], args := [d1, d2, d3] }
  | _ => none }
def ClearOfWrongFalsely : Prop := clearOfRow.holds Try.pinned (OpenSpec.ofChange clearOfWrong)

/-- 'phalanxlaw06.ClassSteps': WHATEVER THE INPUT: true; the input reads as it did. -/
def classStepsSpec : ChangeSpec := { name := "classSteps", fn := fun _ => fun
  | [d1, d2, d3] => { results := [.lit (.bool true)], args := [d1, d2, d3] }
  | _ => none }
def classStepsRow : OpenClaim := { program := "ytkfgphiegkdohaa", sum := "a7648151484aa8f1bf6cc252ec513a0ae7d100577cecbe911c635903849478de", func := "phalanx/phalanxlaw06.ClassSteps", spec := "classSteps", unfollowed := true, recurses := true, plainKeys := false, apart := false }
def ClassStepsSaid : Prop := classStepsRow.holds Try.pinned (OpenSpec.ofChange classStepsSpec)

/-- ITS FALSE NEIGHBOUR: 'it returns false'. Refute it at one input. -/
def classStepsWrong : ChangeSpec := { name := "classSteps", fn := fun _ => fun
  | [d1, d2, d3] => { results := [.lit (.bool false)], args := [d1, d2, d3] }
  | _ => none }
def ClassStepsWrongFalsely : Prop := classStepsRow.holds Try.pinned (OpenSpec.ofChange classStepsWrong)

/-- 'phalanxlaw06.ClassBack': WHATEVER THE INPUT: true; the input reads as it did. -/
def classBackSpec : ChangeSpec := { name := "classBack", fn := fun _ => fun
  | [d1, d2, d3] => { results := [.lit (.bool true)], args := [d1, d2, d3] }
  | _ => none }
def classBackRow : OpenClaim := { program := "ytkfgphiegkdohaa", sum := "a7648151484aa8f1bf6cc252ec513a0ae7d100577cecbe911c635903849478de", func := "phalanx/phalanxlaw06.ClassBack", spec := "classBack", unfollowed := true, recurses := true, plainKeys := false, apart := false }
def ClassBackSaid : Prop := classBackRow.holds Try.pinned (OpenSpec.ofChange classBackSpec)

/-- ITS FALSE NEIGHBOUR: 'it returns false'. Refute it at one input. -/
def classBackWrong : ChangeSpec := { name := "classBack", fn := fun _ => fun
  | [d1, d2, d3] => { results := [.lit (.bool false)], args := [d1, d2, d3] }
  | _ => none }
def ClassBackWrongFalsely : Prop := classBackRow.holds Try.pinned (OpenSpec.ofChange classBackWrong)

/-- 'phalanxlaw06.ClassPaths': WHATEVER THE INPUT: true; the input reads as it did. -/
def classPathsSpec : ChangeSpec := { name := "classPaths", fn := fun _ => fun
  | [d1, d2] => { results := [.lit (.bool true)], args := [d1, d2] }
  | _ => none }
def classPathsRow : OpenClaim := { program := "ytkfgphiegkdohaa", sum := "a7648151484aa8f1bf6cc252ec513a0ae7d100577cecbe911c635903849478de", func := "phalanx/phalanxlaw06.ClassPaths", spec := "classPaths", unfollowed := true, recurses := true, plainKeys := false, apart := false }
def ClassPathsSaid : Prop := classPathsRow.holds Try.pinned (OpenSpec.ofChange classPathsSpec)

/-- ITS FALSE NEIGHBOUR: 'it returns false'. Refute it at one input. -/
def classPathsWrong : ChangeSpec := { name := "classPaths", fn := fun _ => fun
  | [d1, d2] => { results := [.lit (.bool false)], args := [d1, d2] }
  | _ => none }
def ClassPathsWrongFalsely : Prop := classPathsRow.holds Try.pinned (OpenSpec.ofChange classPathsWrong)

/-- 'phalanxlaw07.ClearNobody': WHATEVER THE INPUT: true; the input reads as it did. -/
def clearNobodySpec : ChangeSpec := { name := "clearNobody", fn := fun _ => fun
  | [d] => { results := [.lit (.bool true)], args := [d] }
  | _ => none }
def clearNobodyRow : OpenClaim := { program := "ytkfgphiegkdohaa", sum := "a7648151484aa8f1bf6cc252ec513a0ae7d100577cecbe911c635903849478de", func := "phalanx/phalanxlaw07.ClearNobody", spec := "clearNobody", unfollowed := true, recurses := true, plainKeys := false, apart := false }
def ClearNobodySaid : Prop := clearNobodyRow.holds Try.pinned (OpenSpec.ofChange clearNobodySpec)

/-- ITS FALSE NEIGHBOUR: 'it returns false'. Refute it at one input. -/
def clearNobodyWrong : ChangeSpec := { name := "clearNobody", fn := fun _ => fun
  | [d] => { results := [.lit (.bool false)], args := [d] }
  | _ => none }
def ClearNobodyWrongFalsely : Prop := clearNobodyRow.holds Try.pinned (OpenSpec.ofChange clearNobodyWrong)

/-- 'phalanxlaw07.ClearUpdates': WHATEVER THE INPUT: true; the input reads as it did. -/
def clearUpdatesSpec : ChangeSpec := { name := "clearUpdates", fn := fun _ => fun
  | [d1, d2, d3] => { results := [.lit (.bool true)], args := [d1, d2, d3] }
  | _ => none }
def clearUpdatesRow : OpenClaim := { program := "ytkfgphiegkdohaa", sum := "a7648151484aa8f1bf6cc252ec513a0ae7d100577cecbe911c635903849478de", func := "phalanx/phalanxlaw07.ClearUpdates", spec := "clearUpdates", unfollowed := true, recurses := true, plainKeys := false, apart := false }
def ClearUpdatesSaid : Prop := clearUpdatesRow.holds Try.pinned (OpenSpec.ofChange clearUpdatesSpec)

/-- ITS FALSE NEIGHBOUR: 'it returns false'. Refute it at one input. -/
def clearUpdatesWrong : ChangeSpec := { name := "clearUpdates", fn := fun _ => fun
  | [d1, d2, d3] => { results := [.lit (.bool false)], args := [d1, d2, d3] }
  | _ => none }
def ClearUpdatesWrongFalsely : Prop := clearUpdatesRow.holds Try.pinned (OpenSpec.ofChange clearUpdatesWrong)

/- THE SECOND FORM. 'bulk': how many values and letters a reading holds, each counted each time it is reached (what is shared counts as often as it is met; a slice's spare places count too). A statement '..UptoSaid' is the law's where the arguments, and the package variables that the reading takes, are together of bulk at most 1048576: NARROWER than '..Said'. Prove '..Said' where nothing that the law and all that it calls make is longer than what came in: it says more and counts as full. Else prove '..UptoSaid'. A law counts once. -/
mutual
def uptoBulk {H : Type} : DataW H → Nat
  | .lit (.string bytes) => bytes.length + 1
  | .lit _ => 1
  | .nil => 1
  | .ptr d => uptoBulk d + 1
  | .slice elems spare => uptoBulkAll elems + uptoBulkAll spare + 1
  | .agg parts => uptoBulkAll parts + 1
  | .iface _ d => uptoBulk d + 1
  | .map entries => uptoBulkEntries entries + 1
  | .held _ => 1
def uptoBulkAll {H : Type} : List (DataW H) → Nat
  | [] => 0
  | d :: r => uptoBulk d + uptoBulkAll r
def uptoBulkEntries {H : Type} : List (Lit × DataW H) → Nat
  | [] => 0
  | x :: r => uptoBulkEntry x + uptoBulkEntries r
def uptoBulkEntry {H : Type} : Lit × DataW H → Nat
  | (.string bytes, d) => bytes.length + uptoBulk d + 1
  | (_, d) => uptoBulk d + 1
 end
def uptoSmall : (H : Type) → List (DataW H) → Bool := fun _ ds => decide (uptoBulkAll ds ≤ 1048576)
def OpenSpec.upto (s : _root_.Go.ChangeSpec) : _root_.Go.OpenSpec := { _root_.Go.OpenSpec.ofChange s with cond := some uptoSmall }

/-- 'phalanxlaw06.ClassShapes', WHERE WHAT IT READS IS OF BULK AT MOST 1048576: true; the input reads as it did. -/
def classShapesUptoRow : OpenClaim := { program := "ytkfgphiegkdohaa", sum := "a7648151484aa8f1bf6cc252ec513a0ae7d100577cecbe911c635903849478de", func := "phalanx/phalanxlaw06.ClassShapes", spec := "classShapes", unfollowed := true, recurses := true, plainKeys := false, apart := false, narrowed := true }
def ClassShapesUptoSaid : Prop := classShapesUptoRow.holds Try.pinned (OpenSpec.upto classShapesSpec)

/-- 'phalanxlaw06.ClassStands', WHERE WHAT IT READS IS OF BULK AT MOST 1048576: true; the input reads as it did. -/
def classStandsUptoRow : OpenClaim := { program := "ytkfgphiegkdohaa", sum := "a7648151484aa8f1bf6cc252ec513a0ae7d100577cecbe911c635903849478de", func := "phalanx/phalanxlaw06.ClassStands", spec := "classStands", unfollowed := true, recurses := true, plainKeys := false, apart := false, narrowed := true }
def ClassStandsUptoSaid : Prop := classStandsUptoRow.holds Try.pinned (OpenSpec.upto classStandsSpec)

/-- 'phalanxlaw07.ClearCounts', WHERE WHAT IT READS IS OF BULK AT MOST 1048576: true; the input reads as it did. -/
def clearCountsUptoRow : OpenClaim := { program := "ytkfgphiegkdohaa", sum := "a7648151484aa8f1bf6cc252ec513a0ae7d100577cecbe911c635903849478de", func := "phalanx/phalanxlaw07.ClearCounts", spec := "clearCounts", unfollowed := true, recurses := true, plainKeys := false, apart := false, narrowed := true }
def ClearCountsUptoSaid : Prop := clearCountsUptoRow.holds Try.pinned (OpenSpec.upto clearCountsSpec)

/-- 'phalanxlaw07.ClearOf', WHERE WHAT IT READS IS OF BULK AT MOST 1048576: true; the input reads as it did. -/
def clearOfUptoRow : OpenClaim := { program := "ytkfgphiegkdohaa", sum := "a7648151484aa8f1bf6cc252ec513a0ae7d100577cecbe911c635903849478de", func := "phalanx/phalanxlaw07.ClearOf", spec := "clearOf", unfollowed := true, recurses := true, plainKeys := false, apart := false, narrowed := true }
def ClearOfUptoSaid : Prop := clearOfUptoRow.holds Try.pinned (OpenSpec.upto clearOfSpec)

/-- 'phalanxlaw06.ClassSteps', WHERE WHAT IT READS IS OF BULK AT MOST 1048576: true; the input reads as it did. -/
def classStepsUptoRow : OpenClaim := { program := "ytkfgphiegkdohaa", sum := "a7648151484aa8f1bf6cc252ec513a0ae7d100577cecbe911c635903849478de", func := "phalanx/phalanxlaw06.ClassSteps", spec := "classSteps", unfollowed := true, recurses := true, plainKeys := false, apart := false, narrowed := true }
def ClassStepsUptoSaid : Prop := classStepsUptoRow.holds Try.pinned (OpenSpec.upto classStepsSpec)

/-- 'phalanxlaw06.ClassBack', WHERE WHAT IT READS IS OF BULK AT MOST 1048576: true; the input reads as it did. -/
def classBackUptoRow : OpenClaim := { program := "ytkfgphiegkdohaa", sum := "a7648151484aa8f1bf6cc252ec513a0ae7d100577cecbe911c635903849478de", func := "phalanx/phalanxlaw06.ClassBack", spec := "classBack", unfollowed := true, recurses := true, plainKeys := false, apart := false, narrowed := true }
def ClassBackUptoSaid : Prop := classBackUptoRow.holds Try.pinned (OpenSpec.upto classBackSpec)

/-- 'phalanxlaw06.ClassPaths', WHERE WHAT IT READS IS OF BULK AT MOST 1048576: true; the input reads as it did. -/
def classPathsUptoRow : OpenClaim := { program := "ytkfgphiegkdohaa", sum := "a7648151484aa8f1bf6cc252ec513a0ae7d100577cecbe911c635903849478de", func := "phalanx/phalanxlaw06.ClassPaths", spec := "classPaths", unfollowed := true, recurses := true, plainKeys := false, apart := false, narrowed := true }
def ClassPathsUptoSaid : Prop := classPathsUptoRow.holds Try.pinned (OpenSpec.upto classPathsSpec)

/-- 'phalanxlaw07.ClearNobody', WHERE WHAT IT READS IS OF BULK AT MOST 1048576: true; the input reads as it did. -/
def clearNobodyUptoRow : OpenClaim := { program := "ytkfgphiegkdohaa", sum := "a7648151484aa8f1bf6cc252ec513a0ae7d100577cecbe911c635903849478de", func := "phalanx/phalanxlaw07.ClearNobody", spec := "clearNobody", unfollowed := true, recurses := true, plainKeys := false, apart := false, narrowed := true }
def ClearNobodyUptoSaid : Prop := clearNobodyUptoRow.holds Try.pinned (OpenSpec.upto clearNobodySpec)

/-- 'phalanxlaw07.ClearUpdates', WHERE WHAT IT READS IS OF BULK AT MOST 1048576: true; the input reads as it did. -/
def clearUpdatesUptoRow : OpenClaim := { program := "ytkfgphiegkdohaa", sum := "a7648151484aa8f1bf6cc252ec513a0ae7d100577cecbe911c635903849478de", func := "phalanx/phalanxlaw07.ClearUpdates", spec := "clearUpdates", unfollowed := true, recurses := true, plainKeys := false, apart := false, narrowed := true }
def ClearUpdatesUptoSaid : Prop := clearUpdatesUptoRow.holds Try.pinned (OpenSpec.upto clearUpdatesSpec)

end Rows
end Go.Proofs.Ytkfgphiegkdohaa
