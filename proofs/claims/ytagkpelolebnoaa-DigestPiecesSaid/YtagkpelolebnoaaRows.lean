/-
  No cell of these rows narrows 'for every input' (looked for: loops, veiled, ifaces, maps, wideKeys, modest, calm, conditions, laid).
  DERIVED. THE GIVEN ROWS OF THIS SEAT. 8 by the template 'for every input the law returns true; each argument reads behind the call as it read before'; 0 by the template 'total and deterministic' (their statements: YtagkpelolebnoaaTotals.lean).
  GIVEN WITH THE SEED: the statements are not yours to turn. If you find one false, say at which input.
  Laid BY PROGRAM, IN A SANDBOX (cutbox-rows.mjs): the forced cells as the released guide's own fill.sh prints them over the translation b93f94c5a8742b8a… (all of the seat's roots in one cut). By AI agents, Wed Nov 11 2026. No macro, syntax, notation, axiom, sorry.
-/
import Derived.Test.YtagkpelolebnoaaChecked
import GoSem.Claim
import GoSem.ClaimJoined
import GoSem.ClaimMapViews
import Derived.JoinedTies
import Derived.KernelRfl
namespace Go.Proofs.Ytagkpelolebnoaa
/- THE CELL 'sum', in the pinned program and in every row, IS THE sha256 OF THE DUMP (.gsa) THAT YtagkpelolebnoaaProg.lean LOADS. Nothing in Lean hashes anything: it is a label: what it is worth is what the hold of that sum in a sandbox is worth. -/
noncomputable def Try.pinned : Pinned := { name := "ytagkpelolebnoaa", sum := "b93f94c5a8742b8ab9c9961866082141ebbb331f5c6cd019ca34ee30259c0462", checked := Try.checked }
namespace Rows
def none {H : Type} : Left H := { results := [], args := [] }

/-- 'phalanxlaw27.DigestOf': WHATEVER THE INPUT: true; the input reads as it did. -/
def digestOfSpec : ChangeSpec := { name := "digestOf", fn := fun _ => fun
  | [d] => { results := [.lit (.bool true)], args := [d] }
  | _ => none }
def digestOfRow : OpenClaim := { program := "ytagkpelolebnoaa", sum := "b93f94c5a8742b8ab9c9961866082141ebbb331f5c6cd019ca34ee30259c0462", func := "phalanx/phalanxlaw27.DigestOf", spec := "digestOf", plainKeys := false, apart := false }
def DigestOfSaid : Prop := digestOfRow.holds Try.pinned (OpenSpec.ofChange digestOfSpec)

/-- ITS FALSE NEIGHBOUR: 'it returns false'. Refute it at one input. -/
def digestOfWrong : ChangeSpec := { name := "digestOf", fn := fun _ => fun
  | [d] => { results := [.lit (.bool false)], args := [d] }
  | _ => none }
def DigestOfWrongFalsely : Prop := digestOfRow.holds Try.pinned (OpenSpec.ofChange digestOfWrong)

/-- 'phalanxlaw27.DigestTexts': WHATEVER THE INPUT: true; the input reads as it did. -/
def digestTextsSpec : ChangeSpec := { name := "digestTexts", fn := fun _ => fun
  | [d] => { results := [.lit (.bool true)], args := [d] }
  | _ => none }
def digestTextsRow : OpenClaim := { program := "ytagkpelolebnoaa", sum := "b93f94c5a8742b8ab9c9961866082141ebbb331f5c6cd019ca34ee30259c0462", func := "phalanx/phalanxlaw27.DigestTexts", spec := "digestTexts", plainKeys := false, apart := false }
def DigestTextsSaid : Prop := digestTextsRow.holds Try.pinned (OpenSpec.ofChange digestTextsSpec)

/-- ITS FALSE NEIGHBOUR: 'it returns false'. Refute it at one input. -/
def digestTextsWrong : ChangeSpec := { name := "digestTexts", fn := fun _ => fun
  | [d] => { results := [.lit (.bool false)], args := [d] }
  | _ => none }
def DigestTextsWrongFalsely : Prop := digestTextsRow.holds Try.pinned (OpenSpec.ofChange digestTextsWrong)

/-- 'phalanxlaw27.DigestPieces': WHATEVER THE INPUT: true; the input reads as it did. -/
def digestPiecesSpec : ChangeSpec := { name := "digestPieces", fn := fun _ => fun
  | [d] => { results := [.lit (.bool true)], args := [d] }
  | _ => none }
def digestPiecesRow : OpenClaim := { program := "ytagkpelolebnoaa", sum := "b93f94c5a8742b8ab9c9961866082141ebbb331f5c6cd019ca34ee30259c0462", func := "phalanx/phalanxlaw27.DigestPieces", spec := "digestPieces", plainKeys := false, apart := false }
def DigestPiecesSaid : Prop := digestPiecesRow.holds Try.pinned (OpenSpec.ofChange digestPiecesSpec)

/-- ITS FALSE NEIGHBOUR: 'it returns false'. Refute it at one input. -/
def digestPiecesWrong : ChangeSpec := { name := "digestPieces", fn := fun _ => fun
  | [d] => { results := [.lit (.bool false)], args := [d] }
  | _ => none }
def DigestPiecesWrongFalsely : Prop := digestPiecesRow.holds Try.pinned (OpenSpec.ofChange digestPiecesWrong)

/-- 'phalanxlaw27.DigestNobody': WHATEVER THE INPUT: true; the input reads as it did. -/
def digestNobodySpec : ChangeSpec := { name := "digestNobody", fn := fun _ => fun
  | [d] => { results := [.lit (.bool true)], args := [d] }
  | _ => none }
def digestNobodyRow : OpenClaim := { program := "ytagkpelolebnoaa", sum := "b93f94c5a8742b8ab9c9961866082141ebbb331f5c6cd019ca34ee30259c0462", func := "phalanx/phalanxlaw27.DigestNobody", spec := "digestNobody", plainKeys := false, apart := false }
def DigestNobodySaid : Prop := digestNobodyRow.holds Try.pinned (OpenSpec.ofChange digestNobodySpec)

/-- ITS FALSE NEIGHBOUR: 'it returns false'. Refute it at one input. -/
def digestNobodyWrong : ChangeSpec := { name := "digestNobody", fn := fun _ => fun
  | [d] => { results := [.lit (.bool false)], args := [d] }
  | _ => none }
def DigestNobodyWrongFalsely : Prop := digestNobodyRow.holds Try.pinned (OpenSpec.ofChange digestNobodyWrong)

/-- 'phalanxlaw11.ClusterOf': WHATEVER THE INPUT: true; the input reads as it did. -/
def clusterOfSpec : ChangeSpec := { name := "clusterOf", fn := fun _ => fun
  | [d] => { results := [.lit (.bool true)], args := [d] }
  | _ => none }
def clusterOfRow : OpenClaim := { program := "ytagkpelolebnoaa", sum := "b93f94c5a8742b8ab9c9961866082141ebbb331f5c6cd019ca34ee30259c0462", func := "phalanx/phalanxlaw11.ClusterOf", spec := "clusterOf", unfollowed := true, recurses := true, plainKeys := false, apart := false }
def ClusterOfSaid : Prop := clusterOfRow.holds Try.pinned (OpenSpec.ofChange clusterOfSpec)

/-- ITS FALSE NEIGHBOUR: 'it returns false'. Refute it at one input. -/
def clusterOfWrong : ChangeSpec := { name := "clusterOf", fn := fun _ => fun
  | [d] => { results := [.lit (.bool false)], args := [d] }
  | _ => none }
def ClusterOfWrongFalsely : Prop := clusterOfRow.holds Try.pinned (OpenSpec.ofChange clusterOfWrong)

/-- 'phalanxlaw11.ClusterCrossed': WHATEVER THE INPUT: true; the input reads as it did. -/
def clusterCrossedSpec : ChangeSpec := { name := "clusterCrossed", fn := fun _ => fun
  | [d1, d2] => { results := [.lit (.bool true)], args := [d1, d2] }
  | _ => none }
def clusterCrossedRow : OpenClaim := { program := "ytagkpelolebnoaa", sum := "b93f94c5a8742b8ab9c9961866082141ebbb331f5c6cd019ca34ee30259c0462", func := "phalanx/phalanxlaw11.ClusterCrossed", spec := "clusterCrossed", unfollowed := true, recurses := true, plainKeys := false, apart := false }
def ClusterCrossedSaid : Prop := clusterCrossedRow.holds Try.pinned (OpenSpec.ofChange clusterCrossedSpec)

/-- ITS FALSE NEIGHBOUR: 'it returns false'. Refute it at one input. -/
def clusterCrossedWrong : ChangeSpec := { name := "clusterCrossed", fn := fun _ => fun
  | [d1, d2] => { results := [.lit (.bool false)], args := [d1, d2] }
  | _ => none }
def ClusterCrossedWrongFalsely : Prop := clusterCrossedRow.holds Try.pinned (OpenSpec.ofChange clusterCrossedWrong)

/-- 'phalanxlaw11.ClusterTouched': WHATEVER THE INPUT: true; the input reads as it did. -/
def clusterTouchedSpec : ChangeSpec := { name := "clusterTouched", fn := fun _ => fun
  | [d1, d2] => { results := [.lit (.bool true)], args := [d1, d2] }
  | _ => none }
def clusterTouchedRow : OpenClaim := { program := "ytagkpelolebnoaa", sum := "b93f94c5a8742b8ab9c9961866082141ebbb331f5c6cd019ca34ee30259c0462", func := "phalanx/phalanxlaw11.ClusterTouched", spec := "clusterTouched", unfollowed := true, recurses := true, plainKeys := false, apart := false }
def ClusterTouchedSaid : Prop := clusterTouchedRow.holds Try.pinned (OpenSpec.ofChange clusterTouchedSpec)

/-- ITS FALSE NEIGHBOUR: 'it returns false'. Refute it at one input. -/
def clusterTouchedWrong : ChangeSpec := { name := "clusterTouched", fn := fun _ => fun
  | [d1, d2] => { results := [.lit (.bool false)], args := [d1, d2] }
  | _ => none }
def ClusterTouchedWrongFalsely : Prop := clusterTouchedRow.holds Try.pinned (OpenSpec.ofChange clusterTouchedWrong)

/-- 'phalanxlaw11.ClusterRects': WHATEVER THE INPUT: true; the input reads as it did. -/
def clusterRectsSpec : ChangeSpec := { name := "clusterRects", fn := fun _ => fun
  | [d1, d2] => { results := [.lit (.bool true)], args := [d1, d2] }
  | _ => none }
def clusterRectsRow : OpenClaim := { program := "ytagkpelolebnoaa", sum := "b93f94c5a8742b8ab9c9961866082141ebbb331f5c6cd019ca34ee30259c0462", func := "phalanx/phalanxlaw11.ClusterRects", spec := "clusterRects", unfollowed := true, recurses := true, plainKeys := false, apart := false }
def ClusterRectsSaid : Prop := clusterRectsRow.holds Try.pinned (OpenSpec.ofChange clusterRectsSpec)

/-- ITS FALSE NEIGHBOUR: 'it returns false'. Refute it at one input. -/
def clusterRectsWrong : ChangeSpec := { name := "clusterRects", fn := fun _ => fun
  | [d1, d2] => { results := [.lit (.bool false)], args := [d1, d2] }
  | _ => none }
def ClusterRectsWrongFalsely : Prop := clusterRectsRow.holds Try.pinned (OpenSpec.ofChange clusterRectsWrong)

/- THE SECOND FORM. 'bulk': how many values and letters a reading holds, each counted each time it is reached (what is shared counts as often as it is met; a slice's spare places count too). A statement '..UptoSaid' is the law's where the arguments, and the package variables that the reading takes, are together of bulk at most 1048576: NARROWER than '..Said'. Prove '..Said' where nothing that the law and all that it calls make is longer than what came in: it says more and counts as full. Else prove '..UptoSaid'. A law counts once. -/
mutual
def uptoBulk {H : Type} : DataW H → Nat
  | .lit (.string bytes) => bytes.length + 1
  | .lit _ => 1
  | .nil => 1
  | .ptr d => uptoBulk d + 1
  | .slice elems spare => uptoBulkAll elems + uptoBulkAll spare + 1
  | .agg parts => uptoBulkAll parts + 1
  | .iface _ d => uptoBulk d + 1
  | .map entries => uptoBulkEntries entries + 1
  | .held _ => 1
def uptoBulkAll {H : Type} : List (DataW H) → Nat
  | [] => 0
  | d :: r => uptoBulk d + uptoBulkAll r
def uptoBulkEntries {H : Type} : List (Lit × DataW H) → Nat
  | [] => 0
  | x :: r => uptoBulkEntry x + uptoBulkEntries r
def uptoBulkEntry {H : Type} : Lit × DataW H → Nat
  | (.string bytes, d) => bytes.length + uptoBulk d + 1
  | (_, d) => uptoBulk d + 1
 end
def uptoSmall : (H : Type) → List (DataW H) → Bool := fun _ ds => decide (uptoBulkAll ds ≤ 1048576)
def OpenSpec.upto (s : _root_.Go.ChangeSpec) : _root_.Go.OpenSpec := { _root_.Go.OpenSpec.ofChange s with cond := some uptoSmall }

/-- 'phalanxlaw27.DigestOf', WHERE WHAT IT READS IS OF BULK AT MOST 1048576: true; the input reads as it did. -/
def digestOfUptoRow : OpenClaim := { program := "ytagkpelolebnoaa", sum := "b93f94c5a8742b8ab9c9961866082141ebbb331f5c6cd019ca34ee30259c0462", func := "phalanx/phalanxlaw27.DigestOf", spec := "digestOf", plainKeys := false, apart := false, narrowed := true }
def DigestOfUptoSaid : Prop := digestOfUptoRow.holds Try.pinned (OpenSpec.upto digestOfSpec)

/-- 'phalanxlaw27.DigestTexts', WHERE WHAT IT READS IS OF BULK AT MOST 1048576: true; the input reads as it did. -/
def digestTextsUptoRow : OpenClaim := { program := "ytagkpelolebnoaa", sum := "b93f94c5a8742b8ab9c9961866082141ebbb331f5c6cd019ca34ee30259c0462", func := "phalanx/phalanxlaw27.DigestTexts", spec := "digestTexts", plainKeys := false, apart := false, narrowed := true }
def DigestTextsUptoSaid : Prop := digestTextsUptoRow.holds Try.pinned (OpenSpec.upto digestTextsSpec)

/-- 'phalanxlaw27.DigestPieces', WHERE WHAT IT READS IS OF BULK AT MOST 1048576: true; the input reads as it did. -/
def digestPiecesUptoRow : OpenClaim := { program := "ytagkpelolebnoaa", sum := "b93f94c5a8742b8ab9c9961866082141ebbb331f5c6cd019ca34ee30259c0462", func := "phalanx/phalanxlaw27.DigestPieces", spec := "digestPieces", plainKeys := false, apart := false, narrowed := true }
def DigestPiecesUptoSaid : Prop := digestPiecesUptoRow.holds Try.pinned (OpenSpec.upto digestPiecesSpec)

/-- 'phalanxlaw27.DigestNobody', WHERE WHAT IT READS IS OF BULK AT MOST 1048576: true; the input reads as it did. -/
def digestNobodyUptoRow : OpenClaim := { program := "ytagkpelolebnoaa", sum := "b93f94c5a8742b8ab9c9961866082141ebbb331f5c6cd019ca34ee30259c0462", func := "phalanx/phalanxlaw27.DigestNobody", spec := "digestNobody", plainKeys := false, apart := false, narrowed := true }
def DigestNobodyUptoSaid : Prop := digestNobodyUptoRow.holds Try.pinned (OpenSpec.upto digestNobodySpec)

/-- 'phalanxlaw11.ClusterOf', WHERE WHAT IT READS IS OF BULK AT MOST 1048576: true; the input reads as it did. -/
def clusterOfUptoRow : OpenClaim := { program := "ytagkpelolebnoaa", sum := "b93f94c5a8742b8ab9c9961866082141ebbb331f5c6cd019ca34ee30259c0462", func := "phalanx/phalanxlaw11.ClusterOf", spec := "clusterOf", unfollowed := true, recurses := true, plainKeys := false, apart := false, narrowed := true }
def ClusterOfUptoSaid : Prop := clusterOfUptoRow.holds Try.pinned (OpenSpec.upto clusterOfSpec)

/-- 'phalanxlaw11.ClusterCrossed', WHERE WHAT IT READS IS OF BULK AT MOST 1048576: true; the input reads as it did. -/
def clusterCrossedUptoRow : OpenClaim := { program := "ytagkpelolebnoaa", sum := "b93f94c5a8742b8ab9c9961866082141ebbb331f5c6cd019ca34ee30259c0462", func := "phalanx/phalanxlaw11.ClusterCrossed", spec := "clusterCrossed", unfollowed := true, recurses := true, plainKeys := false, apart := false, narrowed := true }
def ClusterCrossedUptoSaid : Prop := clusterCrossedUptoRow.holds Try.pinned (OpenSpec.upto clusterCrossedSpec)

/-- 'phalanxlaw11.ClusterTouched', WHERE WHAT IT READS IS OF BULK AT MOST 1048576: true; the input reads as it did. -/
def clusterTouchedUptoRow : OpenClaim := { program := "ytagkpelolebnoaa", sum := "b93f94c5a8742b8ab9c9961866082141ebbb331f5c6cd019ca34ee30259c0462", func := "phalanx/phalanxlaw11.ClusterTouched", spec := "clusterTouched", unfollowed := true, recurses := true, plainKeys := false, apart := false, narrowed := true }
def ClusterTouchedUptoSaid : Prop := clusterTouchedUptoRow.holds Try.pinned (OpenSpec.upto clusterTouchedSpec)

/-- 'phalanxlaw11.ClusterRects', WHERE WHAT IT READS IS OF BULK AT MOST 1048576: true; the input reads as it did. -/
def clusterRectsUptoRow : OpenClaim := { program := "ytagkpelolebnoaa", sum := "b93f94c5a8742b8ab9c9961866082141ebbb331f5c6cd019ca34ee30259c0462", func := "phalanx/phalanxlaw11.ClusterRects", spec := "clusterRects", unfollowed := true, recurses := true, plainKeys := false, apart := false, narrowed := true }
def ClusterRectsUptoSaid : Prop := clusterRectsUptoRow.holds Try.pinned (OpenSpec.upto clusterRectsSpec)

end Rows
end Go.Proofs.Ytagkpelolebnoaa
