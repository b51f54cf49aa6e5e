/-
  No cell of these rows narrows 'for every input' (looked for: loops, veiled, ifaces, maps, wideKeys, modest, calm, conditions, laid).
  DERIVED. THE GIVEN ROWS OF THIS SEAT. 11 by the template 'for every input the law returns true; each argument reads behind the call as it read before'; 0 by the template 'total and deterministic' (their statements: YtjhiccoooaleoaaTotals.lean).
  GIVEN WITH THE SEED: the statements are not yours to turn. If you find one false, say at which input.
  Laid BY PROGRAM, IN A SANDBOX (cutbox-rows.mjs): the forced cells as the released guide's own fill.sh prints them over the translation 45a2f967a91cde2a… (all of the seat's roots in one cut). By AI agents, Wed Nov 11 2026. No macro, syntax, notation, axiom, sorry.
-/
import Derived.Test.YtjhiccoooaleoaaChecked
import GoSem.Claim
import GoSem.ClaimJoined
import GoSem.ClaimMapViews
import Derived.JoinedTies
import Derived.KernelRfl
namespace Go.Proofs.Ytjhiccoooaleoaa
/- THE CELL 'sum', in the pinned program and in every row, IS THE sha256 OF THE DUMP (.gsa) THAT YtjhiccoooaleoaaProg.lean LOADS. Nothing in Lean hashes anything: it is a label: what it is worth is what the hold of that sum in a sandbox is worth. -/
noncomputable def Try.pinned : Pinned := { name := "ytjhiccoooaleoaa", sum := "45a2f967a91cde2a09660728de8a1a2172233cde9fc02720989a7b59a0a64864", checked := Try.checked }
namespace Rows
def none {H : Type} : Left H := { results := [], args := [] }

/-- 'phalanxlaw03.CellGoes': WHATEVER THE INPUT: true; the input reads as it did. -/
def cellGoesSpec : ChangeSpec := { name := "cellGoes", fn := fun _ => fun
  | [d1, d2] => { results := [.lit (.bool true)], args := [d1, d2] }
  | _ => none }
def cellGoesRow : OpenClaim := { program := "ytjhiccoooaleoaa", sum := "45a2f967a91cde2a09660728de8a1a2172233cde9fc02720989a7b59a0a64864", func := "phalanx/phalanxlaw03.CellGoes", spec := "cellGoes", unfollowed := true, recurses := true, apart := false }
def CellGoesSaid : Prop := cellGoesRow.holds Try.pinned (OpenSpec.ofChange cellGoesSpec)

/-- ITS FALSE NEIGHBOUR: 'it returns false'. Refute it at one input. -/
def cellGoesWrong : ChangeSpec := { name := "cellGoes", fn := fun _ => fun
  | [d1, d2] => { results := [.lit (.bool false)], args := [d1, d2] }
  | _ => none }
def CellGoesWrongFalsely : Prop := cellGoesRow.holds Try.pinned (OpenSpec.ofChange cellGoesWrong)

/-- 'phalanxlaw03.CellAround': WHATEVER THE INPUT: true; the input reads as it did. -/
def cellAroundSpec : ChangeSpec := { name := "cellAround", fn := fun _ => fun
  | [d1, d2, d3] => { results := [.lit (.bool true)], args := [d1, d2, d3] }
  | _ => none }
def cellAroundRow : OpenClaim := { program := "ytjhiccoooaleoaa", sum := "45a2f967a91cde2a09660728de8a1a2172233cde9fc02720989a7b59a0a64864", func := "phalanx/phalanxlaw03.CellAround", spec := "cellAround", unfollowed := true, recurses := true, apart := false }
def CellAroundSaid : Prop := cellAroundRow.holds Try.pinned (OpenSpec.ofChange cellAroundSpec)

/-- ITS FALSE NEIGHBOUR: 'it returns false'. Refute it at one input. -/
def cellAroundWrong : ChangeSpec := { name := "cellAround", fn := fun _ => fun
  | [d1, d2, d3] => { results := [.lit (.bool false)], args := [d1, d2, d3] }
  | _ => none }
def CellAroundWrongFalsely : Prop := cellAroundRow.holds Try.pinned (OpenSpec.ofChange cellAroundWrong)

/-- 'phalanxlaw01.FixedOctiles': WHATEVER THE INPUT: true; the input reads as it did. -/
def fixedOctilesSpec : ChangeSpec := { name := "fixedOctiles", fn := fun _ => fun
  | [d1, d2] => { results := [.lit (.bool true)], args := [d1, d2] }
  | _ => none }
def fixedOctilesRow : OpenClaim := { program := "ytjhiccoooaleoaa", sum := "45a2f967a91cde2a09660728de8a1a2172233cde9fc02720989a7b59a0a64864", func := "phalanx/phalanxlaw01.FixedOctiles", spec := "fixedOctiles", inPlace := ["math/bits.Add64"], apart := false }
def FixedOctilesSaid : Prop := fixedOctilesRow.holds Try.pinned (OpenSpec.ofChange fixedOctilesSpec)

/-- ITS FALSE NEIGHBOUR: 'it returns false'. Refute it at one input. -/
def fixedOctilesWrong : ChangeSpec := { name := "fixedOctiles", fn := fun _ => fun
  | [d1, d2] => { results := [.lit (.bool false)], args := [d1, d2] }
  | _ => none }
def FixedOctilesWrongFalsely : Prop := fixedOctilesRow.holds Try.pinned (OpenSpec.ofChange fixedOctilesWrong)

/-- 'phalanxlaw03.CellSteps': WHATEVER THE INPUT: true; the input reads as it did. -/
def cellStepsSpec : ChangeSpec := { name := "cellSteps", fn := fun _ => fun
  | [d1, d2, d3] => { results := [.lit (.bool true)], args := [d1, d2, d3] }
  | _ => none }
def cellStepsRow : OpenClaim := { program := "ytjhiccoooaleoaa", sum := "45a2f967a91cde2a09660728de8a1a2172233cde9fc02720989a7b59a0a64864", func := "phalanx/phalanxlaw03.CellSteps", spec := "cellSteps", apart := false }
def CellStepsSaid : Prop := cellStepsRow.holds Try.pinned (OpenSpec.ofChange cellStepsSpec)

/-- ITS FALSE NEIGHBOUR: 'it returns false'. Refute it at one input. -/
def cellStepsWrong : ChangeSpec := { name := "cellSteps", fn := fun _ => fun
  | [d1, d2, d3] => { results := [.lit (.bool false)], args := [d1, d2, d3] }
  | _ => none }
def CellStepsWrongFalsely : Prop := cellStepsRow.holds Try.pinned (OpenSpec.ofChange cellStepsWrong)

/-- 'phalanxlaw03.CellRects': WHATEVER THE INPUT: true; the input reads as it did. -/
def cellRectsSpec : ChangeSpec := { name := "cellRects", fn := fun _ => fun
  | [d1, d2, d3] => { results := [.lit (.bool true)], args := [d1, d2, d3] }
  | _ => none }
def cellRectsRow : OpenClaim := { program := "ytjhiccoooaleoaa", sum := "45a2f967a91cde2a09660728de8a1a2172233cde9fc02720989a7b59a0a64864", func := "phalanx/phalanxlaw03.CellRects", spec := "cellRects", apart := false }
def CellRectsSaid : Prop := cellRectsRow.holds Try.pinned (OpenSpec.ofChange cellRectsSpec)

/-- ITS FALSE NEIGHBOUR: 'it returns false'. Refute it at one input. -/
def cellRectsWrong : ChangeSpec := { name := "cellRects", fn := fun _ => fun
  | [d1, d2, d3] => { results := [.lit (.bool false)], args := [d1, d2, d3] }
  | _ => none }
def CellRectsWrongFalsely : Prop := cellRectsRow.holds Try.pinned (OpenSpec.ofChange cellRectsWrong)

/-- 'phalanxlaw01.FixedSums': WHATEVER THE INPUT: true; the input reads as it did. -/
def fixedSumsSpec : ChangeSpec := { name := "fixedSums", fn := fun _ => fun
  | [d1, d2] => { results := [.lit (.bool true)], args := [d1, d2] }
  | _ => none }
def fixedSumsRow : OpenClaim := { program := "ytjhiccoooaleoaa", sum := "45a2f967a91cde2a09660728de8a1a2172233cde9fc02720989a7b59a0a64864", func := "phalanx/phalanxlaw01.FixedSums", spec := "fixedSums", inPlace := ["math/bits.Add64"], apart := false }
def FixedSumsSaid : Prop := fixedSumsRow.holds Try.pinned (OpenSpec.ofChange fixedSumsSpec)

/-- ITS FALSE NEIGHBOUR: 'it returns false'. Refute it at one input. -/
def fixedSumsWrong : ChangeSpec := { name := "fixedSums", fn := fun _ => fun
  | [d1, d2] => { results := [.lit (.bool false)], args := [d1, d2] }
  | _ => none }
def FixedSumsWrongFalsely : Prop := fixedSumsRow.holds Try.pinned (OpenSpec.ofChange fixedSumsWrong)

/-- 'phalanxlaw01.FixedBits': WHATEVER THE INPUT: true; the input reads as it did. -/
def fixedBitsSpec : ChangeSpec := { name := "fixedBits", fn := fun _ => fun
  | [d1, d2] => { results := [.lit (.bool true)], args := [d1, d2] }
  | _ => none }
def fixedBitsRow : OpenClaim := { program := "ytjhiccoooaleoaa", sum := "45a2f967a91cde2a09660728de8a1a2172233cde9fc02720989a7b59a0a64864", func := "phalanx/phalanxlaw01.FixedBits", spec := "fixedBits", inPlace := ["math/bits.Add64"], apart := false }
def FixedBitsSaid : Prop := fixedBitsRow.holds Try.pinned (OpenSpec.ofChange fixedBitsSpec)

/-- ITS FALSE NEIGHBOUR: 'it returns false'. Refute it at one input. -/
def fixedBitsWrong : ChangeSpec := { name := "fixedBits", fn := fun _ => fun
  | [d1, d2] => { results := [.lit (.bool false)], args := [d1, d2] }
  | _ => none }
def FixedBitsWrongFalsely : Prop := fixedBitsRow.holds Try.pinned (OpenSpec.ofChange fixedBitsWrong)

/-- 'phalanxlaw03.CellApart': WHATEVER THE INPUT: true; the input reads as it did. -/
def cellApartSpec : ChangeSpec := { name := "cellApart", fn := fun _ => fun
  | [d1, d2] => { results := [.lit (.bool true)], args := [d1, d2] }
  | _ => none }
def cellApartRow : OpenClaim := { program := "ytjhiccoooaleoaa", sum := "45a2f967a91cde2a09660728de8a1a2172233cde9fc02720989a7b59a0a64864", func := "phalanx/phalanxlaw03.CellApart", spec := "cellApart", inPlace := ["math/bits.Add64"], apart := false }
def CellApartSaid : Prop := cellApartRow.holds Try.pinned (OpenSpec.ofChange cellApartSpec)

/-- ITS FALSE NEIGHBOUR: 'it returns false'. Refute it at one input. -/
def cellApartWrong : ChangeSpec := { name := "cellApart", fn := fun _ => fun
  | [d1, d2] => { results := [.lit (.bool false)], args := [d1, d2] }
  | _ => none }
def CellApartWrongFalsely : Prop := cellApartRow.holds Try.pinned (OpenSpec.ofChange cellApartWrong)

/-- 'phalanxlaw01.FixedUndoes': WHATEVER THE INPUT: true; the input reads as it did. -/
def fixedUndoesSpec : ChangeSpec := { name := "fixedUndoes", fn := fun _ => fun
  | [d1, d2] => { results := [.lit (.bool true)], args := [d1, d2] }
  | _ => none }
def fixedUndoesRow : OpenClaim := { program := "ytjhiccoooaleoaa", sum := "45a2f967a91cde2a09660728de8a1a2172233cde9fc02720989a7b59a0a64864", func := "phalanx/phalanxlaw01.FixedUndoes", spec := "fixedUndoes", inPlace := ["math/bits.Add64"], apart := false }
def FixedUndoesSaid : Prop := fixedUndoesRow.holds Try.pinned (OpenSpec.ofChange fixedUndoesSpec)

/-- ITS FALSE NEIGHBOUR: 'it returns false'. Refute it at one input. -/
def fixedUndoesWrong : ChangeSpec := { name := "fixedUndoes", fn := fun _ => fun
  | [d1, d2] => { results := [.lit (.bool false)], args := [d1, d2] }
  | _ => none }
def FixedUndoesWrongFalsely : Prop := fixedUndoesRow.holds Try.pinned (OpenSpec.ofChange fixedUndoesWrong)

/-- 'phalanxlaw03.CellBack': WHATEVER THE INPUT: true; the input reads as it did. -/
def cellBackSpec : ChangeSpec := { name := "cellBack", fn := fun _ => fun
  | [d1, d2, d3] => { results := [.lit (.bool true)], args := [d1, d2, d3] }
  | _ => none }
def cellBackRow : OpenClaim := { program := "ytjhiccoooaleoaa", sum := "45a2f967a91cde2a09660728de8a1a2172233cde9fc02720989a7b59a0a64864", func := "phalanx/phalanxlaw03.CellBack", spec := "cellBack", inPlace := ["math/bits.Add64"], apart := false }
def CellBackSaid : Prop := cellBackRow.holds Try.pinned (OpenSpec.ofChange cellBackSpec)

/-- ITS FALSE NEIGHBOUR: 'it returns false'. Refute it at one input. -/
def cellBackWrong : ChangeSpec := { name := "cellBack", fn := fun _ => fun
  | [d1, d2, d3] => { results := [.lit (.bool false)], args := [d1, d2, d3] }
  | _ => none }
def CellBackWrongFalsely : Prop := cellBackRow.holds Try.pinned (OpenSpec.ofChange cellBackWrong)

/-- 'phalanxlaw01.FixedParts': WHATEVER THE INPUT: true; the input reads as it did. -/
def fixedPartsSpec : ChangeSpec := { name := "fixedParts", fn := fun _ => fun
  | [d1, d2] => { results := [.lit (.bool true)], args := [d1, d2] }
  | _ => none }
def fixedPartsRow : OpenClaim := { program := "ytjhiccoooaleoaa", sum := "45a2f967a91cde2a09660728de8a1a2172233cde9fc02720989a7b59a0a64864", func := "phalanx/phalanxlaw01.FixedParts", spec := "fixedParts", inPlace := ["math/bits.Add64"], named := ["math/bits.divideError", "math/bits.overflowError"], apart := false }
def FixedPartsSaid : Prop := fixedPartsRow.holds Try.pinned (OpenSpec.ofChange fixedPartsSpec)

/-- ITS FALSE NEIGHBOUR: 'it returns false'. Refute it at one input. -/
def fixedPartsWrong : ChangeSpec := { name := "fixedParts", fn := fun _ => fun
  | [d1, d2] => { results := [.lit (.bool false)], args := [d1, d2] }
  | _ => none }
def FixedPartsWrongFalsely : Prop := fixedPartsRow.holds Try.pinned (OpenSpec.ofChange fixedPartsWrong)

/- THE SECOND FORM. 'bulk': how many values and letters a reading holds, each counted each time it is reached (what is shared counts as often as it is met; a slice's spare places count too). A statement '..UptoSaid' is the law's where the arguments, and the package variables that the reading takes, are together of bulk at most 1048576: NARROWER than '..Said'. Prove '..Said' where nothing that the law and all that it calls make is longer than what came in: it says more and counts as full. Else prove '..UptoSaid'. A law counts once. -/
mutual
def uptoBulk {H : Type} : DataW H → Nat
  | .lit (.string bytes) => bytes.length + 1
  | .lit _ => 1
  | .nil => 1
  | .ptr d => uptoBulk d + 1
  | .slice elems spare => uptoBulkAll elems + uptoBulkAll spare + 1
  | .agg parts => uptoBulkAll parts + 1
  | .iface _ d => uptoBulk d + 1
  | .map entries => uptoBulkEntries entries + 1
  | .held _ => 1
def uptoBulkAll {H : Type} : List (DataW H) → Nat
  | [] => 0
  | d :: r => uptoBulk d + uptoBulkAll r
def uptoBulkEntries {H : Type} : List (Lit × DataW H) → Nat
  | [] => 0
  | x :: r => uptoBulkEntry x + uptoBulkEntries r
def uptoBulkEntry {H : Type} : Lit × DataW H → Nat
  | (.string bytes, d) => bytes.length + uptoBulk d + 1
  | (_, d) => uptoBulk d + 1
 end
def uptoSmall : (H : Type) → List (DataW H) → Bool := fun _ ds => decide (uptoBulkAll ds ≤ 1048576)
def OpenSpec.upto (s : _root_.Go.ChangeSpec) : _root_.Go.OpenSpec := { _root_.Go.OpenSpec.ofChange s with cond := some uptoSmall }

/-- 'phalanxlaw03.CellGoes', WHERE WHAT IT READS IS OF BULK AT MOST 1048576: true; the input reads as it did. -/
def cellGoesUptoRow : OpenClaim := { program := "ytjhiccoooaleoaa", sum := "45a2f967a91cde2a09660728de8a1a2172233cde9fc02720989a7b59a0a64864", func := "phalanx/phalanxlaw03.CellGoes", spec := "cellGoes", unfollowed := true, recurses := true, apart := false, narrowed := true }
def CellGoesUptoSaid : Prop := cellGoesUptoRow.holds Try.pinned (OpenSpec.upto cellGoesSpec)

/-- 'phalanxlaw03.CellAround', WHERE WHAT IT READS IS OF BULK AT MOST 1048576: true; the input reads as it did. -/
def cellAroundUptoRow : OpenClaim := { program := "ytjhiccoooaleoaa", sum := "45a2f967a91cde2a09660728de8a1a2172233cde9fc02720989a7b59a0a64864", func := "phalanx/phalanxlaw03.CellAround", spec := "cellAround", unfollowed := true, recurses := true, apart := false, narrowed := true }
def CellAroundUptoSaid : Prop := cellAroundUptoRow.holds Try.pinned (OpenSpec.upto cellAroundSpec)

/-- 'phalanxlaw01.FixedOctiles', WHERE WHAT IT READS IS OF BULK AT MOST 1048576: true; the input reads as it did. -/
def fixedOctilesUptoRow : OpenClaim := { program := "ytjhiccoooaleoaa", sum := "45a2f967a91cde2a09660728de8a1a2172233cde9fc02720989a7b59a0a64864", func := "phalanx/phalanxlaw01.FixedOctiles", spec := "fixedOctiles", inPlace := ["math/bits.Add64"], apart := false, narrowed := true }
def FixedOctilesUptoSaid : Prop := fixedOctilesUptoRow.holds Try.pinned (OpenSpec.upto fixedOctilesSpec)

/-- 'phalanxlaw03.CellSteps', WHERE WHAT IT READS IS OF BULK AT MOST 1048576: true; the input reads as it did. -/
def cellStepsUptoRow : OpenClaim := { program := "ytjhiccoooaleoaa", sum := "45a2f967a91cde2a09660728de8a1a2172233cde9fc02720989a7b59a0a64864", func := "phalanx/phalanxlaw03.CellSteps", spec := "cellSteps", apart := false, narrowed := true }
def CellStepsUptoSaid : Prop := cellStepsUptoRow.holds Try.pinned (OpenSpec.upto cellStepsSpec)

/-- 'phalanxlaw03.CellRects', WHERE WHAT IT READS IS OF BULK AT MOST 1048576: true; the input reads as it did. -/
def cellRectsUptoRow : OpenClaim := { program := "ytjhiccoooaleoaa", sum := "45a2f967a91cde2a09660728de8a1a2172233cde9fc02720989a7b59a0a64864", func := "phalanx/phalanxlaw03.CellRects", spec := "cellRects", apart := false, narrowed := true }
def CellRectsUptoSaid : Prop := cellRectsUptoRow.holds Try.pinned (OpenSpec.upto cellRectsSpec)

/-- 'phalanxlaw01.FixedSums', WHERE WHAT IT READS IS OF BULK AT MOST 1048576: true; the input reads as it did. -/
def fixedSumsUptoRow : OpenClaim := { program := "ytjhiccoooaleoaa", sum := "45a2f967a91cde2a09660728de8a1a2172233cde9fc02720989a7b59a0a64864", func := "phalanx/phalanxlaw01.FixedSums", spec := "fixedSums", inPlace := ["math/bits.Add64"], apart := false, narrowed := true }
def FixedSumsUptoSaid : Prop := fixedSumsUptoRow.holds Try.pinned (OpenSpec.upto fixedSumsSpec)

/-- 'phalanxlaw01.FixedBits', WHERE WHAT IT READS IS OF BULK AT MOST 1048576: true; the input reads as it did. -/
def fixedBitsUptoRow : OpenClaim := { program := "ytjhiccoooaleoaa", sum := "45a2f967a91cde2a09660728de8a1a2172233cde9fc02720989a7b59a0a64864", func := "phalanx/phalanxlaw01.FixedBits", spec := "fixedBits", inPlace := ["math/bits.Add64"], apart := false, narrowed := true }
def FixedBitsUptoSaid : Prop := fixedBitsUptoRow.holds Try.pinned (OpenSpec.upto fixedBitsSpec)

/-- 'phalanxlaw03.CellApart', WHERE WHAT IT READS IS OF BULK AT MOST 1048576: true; the input reads as it did. -/
def cellApartUptoRow : OpenClaim := { program := "ytjhiccoooaleoaa", sum := "45a2f967a91cde2a09660728de8a1a2172233cde9fc02720989a7b59a0a64864", func := "phalanx/phalanxlaw03.CellApart", spec := "cellApart", inPlace := ["math/bits.Add64"], apart := false, narrowed := true }
def CellApartUptoSaid : Prop := cellApartUptoRow.holds Try.pinned (OpenSpec.upto cellApartSpec)

/-- 'phalanxlaw01.FixedUndoes', WHERE WHAT IT READS IS OF BULK AT MOST 1048576: true; the input reads as it did. -/
def fixedUndoesUptoRow : OpenClaim := { program := "ytjhiccoooaleoaa", sum := "45a2f967a91cde2a09660728de8a1a2172233cde9fc02720989a7b59a0a64864", func := "phalanx/phalanxlaw01.FixedUndoes", spec := "fixedUndoes", inPlace := ["math/bits.Add64"], apart := false, narrowed := true }
def FixedUndoesUptoSaid : Prop := fixedUndoesUptoRow.holds Try.pinned (OpenSpec.upto fixedUndoesSpec)

/-- 'phalanxlaw03.CellBack', WHERE WHAT IT READS IS OF BULK AT MOST 1048576: true; the input reads as it did. -/
def cellBackUptoRow : OpenClaim := { program := "ytjhiccoooaleoaa", sum := "45a2f967a91cde2a09660728de8a1a2172233cde9fc02720989a7b59a0a64864", func := "phalanx/phalanxlaw03.CellBack", spec := "cellBack", inPlace := ["math/bits.Add64"], apart := false, narrowed := true }
def CellBackUptoSaid : Prop := cellBackUptoRow.holds Try.pinned (OpenSpec.upto cellBackSpec)

/-- 'phalanxlaw01.FixedParts', WHERE WHAT IT READS IS OF BULK AT MOST 1048576: true; the input reads as it did. -/
def fixedPartsUptoRow : OpenClaim := { program := "ytjhiccoooaleoaa", sum := "45a2f967a91cde2a09660728de8a1a2172233cde9fc02720989a7b59a0a64864", func := "phalanx/phalanxlaw01.FixedParts", spec := "fixedParts", inPlace := ["math/bits.Add64"], named := ["math/bits.divideError", "math/bits.overflowError"], apart := false, narrowed := true }
def FixedPartsUptoSaid : Prop := fixedPartsUptoRow.holds Try.pinned (OpenSpec.upto fixedPartsSpec)

end Rows
end Go.Proofs.Ytjhiccoooaleoaa
