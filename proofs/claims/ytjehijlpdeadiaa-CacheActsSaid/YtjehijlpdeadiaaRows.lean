/-
  No cell of these rows narrows 'for every input' (looked for: loops, veiled, ifaces, maps, wideKeys, modest, calm, conditions, laid).
  DERIVED. THE GIVEN ROWS OF THIS SEAT. 9 by the template 'for every input the law returns true; each argument reads behind the call as it read before'; 0 by the template 'total and deterministic' (their statements: YtjehijlpdeadiaaTotals.lean).
  GIVEN WITH THE SEED: the statements are not yours to turn. If you find one false, say at which input.
  Laid BY PROGRAM, IN A SANDBOX (cutbox-rows.mjs): the forced cells as the released guide's own fill.sh prints them over the translation f832a1eded4e9b27… (all of the seat's roots in one cut). By AI agents, Wed Nov 11 2026. No macro, syntax, notation, axiom, sorry.
-/
import Derived.Test.YtjehijlpdeadiaaChecked
import GoSem.Claim
import GoSem.ClaimJoined
import GoSem.ClaimMapViews
import Derived.JoinedTies
import Derived.KernelRfl
namespace Go.Proofs.Ytjehijlpdeadiaa
/- THE CELL 'sum', in the pinned program and in every row, IS THE sha256 OF THE DUMP (.gsa) THAT YtjehijlpdeadiaaProg.lean LOADS. Nothing in Lean hashes anything: it is a label: what it is worth is what the hold of that sum in a sandbox is worth. -/
noncomputable def Try.pinned : Pinned := { name := "ytjehijlpdeadiaa", sum := "f832a1eded4e9b27d19e42e994c43a927cab2f216429e9f8ab8a0dd1c591152e", checked := Try.checked }
namespace Rows
def none {H : Type} : Left H := { results := [], args := [] }

/-- 'phalanxlaw16.CacheOwns': WHATEVER THE INPUT: true; the input reads as it did. -/
def cacheOwnsSpec : ChangeSpec := { name := "cacheOwns", fn := fun _ => fun
  | [d1, d2, d3] => { results := [.lit (.bool true)], args := [d1, d2, d3] }
  | _ => none }
def cacheOwnsRow : OpenClaim := { program := "ytjehijlpdeadiaa", sum := "f832a1eded4e9b27d19e42e994c43a927cab2f216429e9f8ab8a0dd1c591152e", func := "phalanx/phalanxlaw16.CacheOwns", spec := "cacheOwns", plainKeys := false, apart := false }
def CacheOwnsSaid : Prop := cacheOwnsRow.holds Try.pinned (OpenSpec.ofChange cacheOwnsSpec)

/-- ITS FALSE NEIGHBOUR: 'it returns false'. Refute it at one input. -/
def cacheOwnsWrong : ChangeSpec := { name := "cacheOwns", fn := fun _ => fun
  | [d1, d2, d3] => { results := [.lit (.bool false)], args := [d1, d2, d3] }
  | _ => none }
def CacheOwnsWrongFalsely : Prop := cacheOwnsRow.holds Try.pinned (OpenSpec.ofChange cacheOwnsWrong)

/-- 'phalanxlaw17.SlotsLayouts': WHATEVER THE INPUT: true; the input reads as it did. -/
def slotsLayoutsSpec : ChangeSpec := { name := "slotsLayouts", fn := fun _ => fun
  | [d1, d2] => { results := [.lit (.bool true)], args := [d1, d2] }
  | _ => none }
def slotsLayoutsRow : OpenClaim := { program := "ytjehijlpdeadiaa", sum := "f832a1eded4e9b27d19e42e994c43a927cab2f216429e9f8ab8a0dd1c591152e", func := "phalanx/phalanxlaw17.SlotsLayouts", spec := "slotsLayouts", plainKeys := false, apart := false }
def SlotsLayoutsSaid : Prop := slotsLayoutsRow.holds Try.pinned (OpenSpec.ofChange slotsLayoutsSpec)

/-- ITS FALSE NEIGHBOUR: 'it returns false'. Refute it at one input. -/
def slotsLayoutsWrong : ChangeSpec := { name := "slotsLayouts", fn := fun _ => fun
  | [d1, d2] => { results := [.lit (.bool false)], args := [d1, d2] }
  | _ => none }
def SlotsLayoutsWrongFalsely : Prop := slotsLayoutsRow.holds Try.pinned (OpenSpec.ofChange slotsLayoutsWrong)

/-- 'phalanxlaw17.SlotsApart': WHATEVER THE INPUT: true; the input reads as it did. -/
def slotsApartSpec : ChangeSpec := { name := "slotsApart", fn := fun _ => fun
  | [d1, d2] => { results := [.lit (.bool true)], args := [d1, d2] }
  | _ => none }
def slotsApartRow : OpenClaim := { program := "ytjehijlpdeadiaa", sum := "f832a1eded4e9b27d19e42e994c43a927cab2f216429e9f8ab8a0dd1c591152e", func := "phalanx/phalanxlaw17.SlotsApart", spec := "slotsApart", plainKeys := false, apart := false }
def SlotsApartSaid : Prop := slotsApartRow.holds Try.pinned (OpenSpec.ofChange slotsApartSpec)

/-- ITS FALSE NEIGHBOUR: 'it returns false'. Refute it at one input. -/
def slotsApartWrong : ChangeSpec := { name := "slotsApart", fn := fun _ => fun
  | [d1, d2] => { results := [.lit (.bool false)], args := [d1, d2] }
  | _ => none }
def SlotsApartWrongFalsely : Prop := slotsApartRow.holds Try.pinned (OpenSpec.ofChange slotsApartWrong)

/-- 'phalanxlaw09.HeapActs': WHATEVER THE INPUT: true; the input reads as it did. -/
def heapActsSpec : ChangeSpec := { name := "heapActs", fn := fun _ => fun
  | [d] => { results := [.lit (.bool true)], args := [d] }
  | _ => none }
def heapActsRow : OpenClaim := { program := "ytjehijlpdeadiaa", sum := "f832a1eded4e9b27d19e42e994c43a927cab2f216429e9f8ab8a0dd1c591152e", func := "phalanx/phalanxlaw09.HeapActs", spec := "heapActs", unfollowed := true, recurses := true, plainKeys := false, apart := false }
def HeapActsSaid : Prop := heapActsRow.holds Try.pinned (OpenSpec.ofChange heapActsSpec)

/-- ITS FALSE NEIGHBOUR: 'it returns false'. Refute it at one input. -/
def heapActsWrong : ChangeSpec := { name := "heapActs", fn := fun _ => fun
  | [d] => { results := [.lit (.bool false)], args := [d] }
  | _ => none }
def HeapActsWrongFalsely : Prop := heapActsRow.holds Try.pinned (OpenSpec.ofChange heapActsWrong)

/-- 'phalanxlaw16.CacheActs': WHATEVER THE INPUT: true; the input reads as it did. -/
def cacheActsSpec : ChangeSpec := { name := "cacheActs", fn := fun _ => fun
  | [d1, d2] => { results := [.lit (.bool true)], args := [d1, d2] }
  | _ => none }
def cacheActsRow : OpenClaim := { program := "ytjehijlpdeadiaa", sum := "f832a1eded4e9b27d19e42e994c43a927cab2f216429e9f8ab8a0dd1c591152e", func := "phalanx/phalanxlaw16.CacheActs", spec := "cacheActs", unfollowed := true, recurses := true, plainKeys := false, apart := false }
def CacheActsSaid : Prop := cacheActsRow.holds Try.pinned (OpenSpec.ofChange cacheActsSpec)

/-- ITS FALSE NEIGHBOUR: 'it returns false'. Refute it at one input. -/
def cacheActsWrong : ChangeSpec := { name := "cacheActs", fn := fun _ => fun
  | [d1, d2] => { results := [.lit (.bool false)], args := [d1, d2] }
  | _ => none }
def CacheActsWrongFalsely : Prop := cacheActsRow.holds Try.pinned (OpenSpec.ofChange cacheActsWrong)

/-- 'phalanxlaw16.CacheNobody': WHATEVER THE INPUT: true; the input reads as it did. -/
def cacheNobodySpec : ChangeSpec := { name := "cacheNobody", fn := fun _ => fun
  | [d] => { results := [.lit (.bool true)], args := [d] }
  | _ => none }
def cacheNobodyRow : OpenClaim := { program := "ytjehijlpdeadiaa", sum := "f832a1eded4e9b27d19e42e994c43a927cab2f216429e9f8ab8a0dd1c591152e", func := "phalanx/phalanxlaw16.CacheNobody", spec := "cacheNobody", unfollowed := true, recurses := true, plainKeys := false, apart := false }
def CacheNobodySaid : Prop := cacheNobodyRow.holds Try.pinned (OpenSpec.ofChange cacheNobodySpec)

/-- ITS FALSE NEIGHBOUR: 'it returns false'. Refute it at one input. -/
def cacheNobodyWrong : ChangeSpec := { name := "cacheNobody", fn := fun _ => fun
  | [d] => { results := [.lit (.bool false)], args := [d] }
  | _ => none }
def CacheNobodyWrongFalsely : Prop := cacheNobodyRow.holds Try.pinned (OpenSpec.ofChange cacheNobodyWrong)

/-- 'phalanxlaw09.HeapSorts': WHATEVER THE INPUT: true; the input reads as it did. -/
def heapSortsSpec : ChangeSpec := { name := "heapSorts", fn := fun _ => fun
  | [d] => { results := [.lit (.bool true)], args := [d] }
  | _ => none }
def heapSortsRow : OpenClaim := { program := "ytjehijlpdeadiaa", sum := "f832a1eded4e9b27d19e42e994c43a927cab2f216429e9f8ab8a0dd1c591152e", func := "phalanx/phalanxlaw09.HeapSorts", spec := "heapSorts", unfollowed := true, recurses := true, plainKeys := false, apart := false }
def HeapSortsSaid : Prop := heapSortsRow.holds Try.pinned (OpenSpec.ofChange heapSortsSpec)

/-- ITS FALSE NEIGHBOUR: 'it returns false'. Refute it at one input. -/
def heapSortsWrong : ChangeSpec := { name := "heapSorts", fn := fun _ => fun
  | [d] => { results := [.lit (.bool false)], args := [d] }
  | _ => none }
def HeapSortsWrongFalsely : Prop := heapSortsRow.holds Try.pinned (OpenSpec.ofChange heapSortsWrong)

/-- 'phalanxlaw09.HeapDrains': WHATEVER THE INPUT: true; the input reads as it did. -/
def heapDrainsSpec : ChangeSpec := { name := "heapDrains", fn := fun _ => fun
  | [d1, d2] => { results := [.lit (.bool true)], args := [d1, d2] }
  | _ => none }
def heapDrainsRow : OpenClaim := { program := "ytjehijlpdeadiaa", sum := "f832a1eded4e9b27d19e42e994c43a927cab2f216429e9f8ab8a0dd1c591152e", func := "phalanx/phalanxlaw09.HeapDrains", spec := "heapDrains", unfollowed := true, recurses := true, plainKeys := false, apart := false }
def HeapDrainsSaid : Prop := heapDrainsRow.holds Try.pinned (OpenSpec.ofChange heapDrainsSpec)

/-- ITS FALSE NEIGHBOUR: 'it returns false'. Refute it at one input. -/
def heapDrainsWrong : ChangeSpec := { name := "heapDrains", fn := fun _ => fun
  | [d1, d2] => { results := [.lit (.bool false)], args := [d1, d2] }
  | _ => none }
def HeapDrainsWrongFalsely : Prop := heapDrainsRow.holds Try.pinned (OpenSpec.ofChange heapDrainsWrong)

/-- 'phalanxlaw17.SlotsBoxes': WHATEVER THE INPUT: true; the input reads as it did. -/
def slotsBoxesSpec : ChangeSpec := { name := "slotsBoxes", fn := fun _ => fun
  | [d1, d2] => { results := [.lit (.bool true)], args := [d1, d2] }
  | _ => none }
def slotsBoxesRow : OpenClaim := { program := "ytjehijlpdeadiaa", sum := "f832a1eded4e9b27d19e42e994c43a927cab2f216429e9f8ab8a0dd1c591152e", func := "phalanx/phalanxlaw17.SlotsBoxes", spec := "slotsBoxes", plainKeys := false, apart := false }
def SlotsBoxesSaid : Prop := slotsBoxesRow.holds Try.pinned (OpenSpec.ofChange slotsBoxesSpec)

/-- ITS FALSE NEIGHBOUR: 'it returns false'. Refute it at one input. -/
def slotsBoxesWrong : ChangeSpec := { name := "slotsBoxes", fn := fun _ => fun
  | [d1, d2] => { results := [.lit (.bool false)], args := [d1, d2] }
  | _ => none }
def SlotsBoxesWrongFalsely : Prop := slotsBoxesRow.holds Try.pinned (OpenSpec.ofChange slotsBoxesWrong)

/- THE SECOND FORM. 'bulk': how many values and letters a reading holds, each counted each time it is reached (what is shared counts as often as it is met; a slice's spare places count too). A statement '..UptoSaid' is the law's where the arguments, and the package variables that the reading takes, are together of bulk at most 1048576: NARROWER than '..Said'. Prove '..Said' where nothing that the law and all that it calls make is longer than what came in: it says more and counts as full. Else prove '..UptoSaid'. A law counts once. -/
mutual
def uptoBulk {H : Type} : DataW H → Nat
  | .lit (.string bytes) => bytes.length + 1
  | .lit _ => 1
  | .nil => 1
  | .ptr d => uptoBulk d + 1
  | .slice elems spare => uptoBulkAll elems + uptoBulkAll spare + 1
  | .agg parts => uptoBulkAll parts + 1
  | .iface _ d => uptoBulk d + 1
  | .map entries => uptoBulkEntries entries + 1
  | .held _ => 1
def uptoBulkAll {H : Type} : List (DataW H) → Nat
  | [] => 0
  | d :: r => uptoBulk d + uptoBulkAll r
def uptoBulkEntries {H : Type} : List (Lit × DataW H) → Nat
  | [] => 0
  | x :: r => uptoBulkEntry x + uptoBulkEntries r
def uptoBulkEntry {H : Type} : Lit × DataW H → Nat
  | (.string bytes, d) => bytes.length + uptoBulk d + 1
  | (_, d) => uptoBulk d + 1
 end
def uptoSmall : (H : Type) → List (DataW H) → Bool := fun _ ds => decide (uptoBulkAll ds ≤ 1048576)
def OpenSpec.upto (s : _root_.Go.ChangeSpec) : _root_.Go.OpenSpec := { _root_.Go.OpenSpec.ofChange s with cond := some uptoSmall }

/-- 'phalanxlaw16.CacheOwns', WHERE WHAT IT READS IS OF BULK AT MOST 1048576: true; the input reads as it did. -/
def cacheOwnsUptoRow : OpenClaim := { program := "ytjehijlpdeadiaa", sum := "f832a1eded4e9b27d19e42e994c43a927cab2f216429e9f8ab8a0dd1c591152e", func := "phalanx/phalanxlaw16.CacheOwns", spec := "cacheOwns", plainKeys := false, apart := false, narrowed := true }
def CacheOwnsUptoSaid : Prop := cacheOwnsUptoRow.holds Try.pinned (OpenSpec.upto cacheOwnsSpec)

/-- 'phalanxlaw17.SlotsLayouts', WHERE WHAT IT READS IS OF BULK AT MOST 1048576: true; the input reads as it did. -/
def slotsLayoutsUptoRow : OpenClaim := { program := "ytjehijlpdeadiaa", sum := "f832a1eded4e9b27d19e42e994c43a927cab2f216429e9f8ab8a0dd1c591152e", func := "phalanx/phalanxlaw17.SlotsLayouts", spec := "slotsLayouts", plainKeys := false, apart := false, narrowed := true }
def SlotsLayoutsUptoSaid : Prop := slotsLayoutsUptoRow.holds Try.pinned (OpenSpec.upto slotsLayoutsSpec)

/-- 'phalanxlaw17.SlotsApart', WHERE WHAT IT READS IS OF BULK AT MOST 1048576: true; the input reads as it did. -/
def slotsApartUptoRow : OpenClaim := { program := "ytjehijlpdeadiaa", sum := "f832a1eded4e9b27d19e42e994c43a927cab2f216429e9f8ab8a0dd1c591152e", func := "phalanx/phalanxlaw17.SlotsApart", spec := "slotsApart", plainKeys := false, apart := false, narrowed := true }
def SlotsApartUptoSaid : Prop := slotsApartUptoRow.holds Try.pinned (OpenSpec.upto slotsApartSpec)

/-- 'phalanxlaw09.HeapActs', WHERE WHAT IT READS IS OF BULK AT MOST 1048576: true; the input reads as it did. -/
def heapActsUptoRow : OpenClaim := { program := "ytjehijlpdeadiaa", sum := "f832a1eded4e9b27d19e42e994c43a927cab2f216429e9f8ab8a0dd1c591152e", func := "phalanx/phalanxlaw09.HeapActs", spec := "heapActs", unfollowed := true, recurses := true, plainKeys := false, apart := false, narrowed := true }
def HeapActsUptoSaid : Prop := heapActsUptoRow.holds Try.pinned (OpenSpec.upto heapActsSpec)

/-- 'phalanxlaw16.CacheActs', WHERE WHAT IT READS IS OF BULK AT MOST 1048576: true; the input reads as it did. -/
def cacheActsUptoRow : OpenClaim := { program := "ytjehijlpdeadiaa", sum := "f832a1eded4e9b27d19e42e994c43a927cab2f216429e9f8ab8a0dd1c591152e", func := "phalanx/phalanxlaw16.CacheActs", spec := "cacheActs", unfollowed := true, recurses := true, plainKeys := false, apart := false, narrowed := true }
def CacheActsUptoSaid : Prop := cacheActsUptoRow.holds Try.pinned (OpenSpec.upto cacheActsSpec)

/-- 'phalanxlaw16.CacheNobody', WHERE WHAT IT READS IS OF BULK AT MOST 1048576: true; the input reads as it did. -/
def cacheNobodyUptoRow : OpenClaim := { program := "ytjehijlpdeadiaa", sum := "f832a1eded4e9b27d19e42e994c43a927cab2f216429e9f8ab8a0dd1c591152e", func := "phalanx/phalanxlaw16.CacheNobody", spec := "cacheNobody", unfollowed := true, recurses := true, plainKeys := false, apart := false, narrowed := true }
def CacheNobodyUptoSaid : Prop := cacheNobodyUptoRow.holds Try.pinned (OpenSpec.upto cacheNobodySpec)

/-- 'phalanxlaw09.HeapSorts', WHERE WHAT IT READS IS OF BULK AT MOST 1048576: true; the input reads as it did. -/
def heapSortsUptoRow : OpenClaim := { program := "ytjehijlpdeadiaa", sum := "f832a1eded4e9b27d19e42e994c43a927cab2f216429e9f8ab8a0dd1c591152e", func := "phalanx/phalanxlaw09.HeapSorts", spec := "heapSorts", unfollowed := true, recurses := true, plainKeys := false, apart := false, narrowed := true }
def HeapSortsUptoSaid : Prop := heapSortsUptoRow.holds Try.pinned (OpenSpec.upto heapSortsSpec)

/-- 'phalanxlaw09.HeapDrains', WHERE WHAT IT READS IS OF BULK AT MOST 1048576: true; the input reads as it did. -/
def heapDrainsUptoRow : OpenClaim := { program := "ytjehijlpdeadiaa", sum := "f832a1eded4e9b27d19e42e994c43a927cab2f216429e9f8ab8a0dd1c591152e", func := "phalanx/phalanxlaw09.HeapDrains", spec := "heapDrains", unfollowed := true, recurses := true, plainKeys := false, apart := false, narrowed := true }
def HeapDrainsUptoSaid : Prop := heapDrainsUptoRow.holds Try.pinned (OpenSpec.upto heapDrainsSpec)

/-- 'phalanxlaw17.SlotsBoxes', WHERE WHAT IT READS IS OF BULK AT MOST 1048576: true; the input reads as it did. -/
def slotsBoxesUptoRow : OpenClaim := { program := "ytjehijlpdeadiaa", sum := "f832a1eded4e9b27d19e42e994c43a927cab2f216429e9f8ab8a0dd1c591152e", func := "phalanx/phalanxlaw17.SlotsBoxes", spec := "slotsBoxes", plainKeys := false, apart := false, narrowed := true }
def SlotsBoxesUptoSaid : Prop := slotsBoxesUptoRow.holds Try.pinned (OpenSpec.upto slotsBoxesSpec)

end Rows
end Go.Proofs.Ytjehijlpdeadiaa
