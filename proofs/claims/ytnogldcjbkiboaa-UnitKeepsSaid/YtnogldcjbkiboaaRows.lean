/-
  No cell of these rows narrows 'for every input' (looked for: loops, veiled, ifaces, maps, wideKeys, modest, calm, conditions, laid).
  DERIVED. THE GIVEN ROWS OF THIS SEAT. 6 by the template 'for every input the law returns true; each argument reads behind the call as it read before'; 0 by the template 'total and deterministic' (their statements: YtnogldcjbkiboaaTotals.lean).
  GIVEN WITH THE SEED: the statements are not yours to turn. If you find one false, say at which input.
  Laid BY PROGRAM, IN A SANDBOX (cutbox-rows.mjs): the forced cells as the released guide's own fill.sh prints them over the translation e9045f9fd41856ba… (all of the seat's roots in one cut). By AI agents, Wed Nov 11 2026. No macro, syntax, notation, axiom, sorry.
-/
import Derived.Test.YtnogldcjbkiboaaChecked
import GoSem.Claim
import GoSem.ClaimJoined
import GoSem.ClaimMapViews
import Derived.JoinedTies
import Derived.KernelRfl
namespace Go.Proofs.Ytnogldcjbkiboaa
/- THE CELL 'sum', in the pinned program and in every row, IS THE sha256 OF THE DUMP (.gsa) THAT YtnogldcjbkiboaaProg.lean LOADS. Nothing in Lean hashes anything: it is a label: what it is worth is what the hold of that sum in a sandbox is worth. -/
noncomputable def Try.pinned : Pinned := { name := "ytnogldcjbkiboaa", sum := "e9045f9fd41856baf825cacf654a829a4133c2cfecd8a6d1c697fee0b2026f60", checked := Try.checked }
namespace Rows
def none {H : Type} : Left H := { results := [], args := [] }

/-- 'phalanxlaw21.UnitAims': WHATEVER THE INPUT: true; the input reads as it did. -/
def unitAimsSpec : ChangeSpec := { name := "unitAims", fn := fun _ => fun
  | [d1, d2] => { results := [.lit (.bool true)], args := [d1, d2] }
  | _ => none }
def unitAimsRow : OpenClaim := { program := "ytnogldcjbkiboaa", sum := "e9045f9fd41856baf825cacf654a829a4133c2cfecd8a6d1c697fee0b2026f60", func := "phalanx/phalanxlaw21.UnitAims", spec := "unitAims", unfollowed := true, recurses := true, apart := false }
def UnitAimsSaid : Prop := unitAimsRow.holds Try.pinned (OpenSpec.ofChange unitAimsSpec)

/-- ITS FALSE NEIGHBOUR: 'it returns false'. Refute it at one input. -/
def unitAimsWrong : ChangeSpec := { name := "unitAims", fn := fun _ => fun
  | [d1, d2] => { results := [.lit (.bool false)], args := [d1, d2] }
  | _ => none }
def UnitAimsWrongFalsely : Prop := unitAimsRow.holds Try.pinned (OpenSpec.ofChange unitAimsWrong)

/-- 'phalanxlaw21.UnitGives': WHATEVER THE INPUT: true; the input reads as it did. -/
def unitGivesSpec : ChangeSpec := { name := "unitGives", fn := fun _ => fun
  | [d1, d2] => { results := [.lit (.bool true)], args := [d1, d2] }
  | _ => none }
def unitGivesRow : OpenClaim := { program := "ytnogldcjbkiboaa", sum := "e9045f9fd41856baf825cacf654a829a4133c2cfecd8a6d1c697fee0b2026f60", func := "phalanx/phalanxlaw21.UnitGives", spec := "unitGives", unfollowed := true, recurses := true, apart := false }
def UnitGivesSaid : Prop := unitGivesRow.holds Try.pinned (OpenSpec.ofChange unitGivesSpec)

/-- ITS FALSE NEIGHBOUR: 'it returns false'. Refute it at one input. -/
def unitGivesWrong : ChangeSpec := { name := "unitGives", fn := fun _ => fun
  | [d1, d2] => { results := [.lit (.bool false)], args := [d1, d2] }
  | _ => none }
def UnitGivesWrongFalsely : Prop := unitGivesRow.holds Try.pinned (OpenSpec.ofChange unitGivesWrong)

/-- 'phalanxlaw21.UnitWalks': WHATEVER THE INPUT: true; the input reads as it did. -/
def unitWalksSpec : ChangeSpec := { name := "unitWalks", fn := fun _ => fun
  | [d] => { results := [.lit (.bool true)], args := [d] }
  | _ => none }
def unitWalksRow : OpenClaim := { program := "ytnogldcjbkiboaa", sum := "e9045f9fd41856baf825cacf654a829a4133c2cfecd8a6d1c697fee0b2026f60", func := "phalanx/phalanxlaw21.UnitWalks", spec := "unitWalks", unfollowed := true, recurses := true, apart := false }
def UnitWalksSaid : Prop := unitWalksRow.holds Try.pinned (OpenSpec.ofChange unitWalksSpec)

/-- ITS FALSE NEIGHBOUR: 'it returns false'. Refute it at one input. -/
def unitWalksWrong : ChangeSpec := { name := "unitWalks", fn := fun _ => fun
  | [d] => { results := [.lit (.bool false)], args := [d] }
  | _ => none }
def UnitWalksWrongFalsely : Prop := unitWalksRow.holds Try.pinned (OpenSpec.ofChange unitWalksWrong)

/-- 'phalanxlaw21.UnitChecks': WHATEVER THE INPUT: true; the input reads as it did. -/
def unitChecksSpec : ChangeSpec := { name := "unitChecks", fn := fun _ => fun
  | [d] => { results := [.lit (.bool true)], args := [d] }
  | _ => none }
def unitChecksRow : OpenClaim := { program := "ytnogldcjbkiboaa", sum := "e9045f9fd41856baf825cacf654a829a4133c2cfecd8a6d1c697fee0b2026f60", func := "phalanx/phalanxlaw21.UnitChecks", spec := "unitChecks", unfollowed := true, recurses := true, apart := false }
def UnitChecksSaid : Prop := unitChecksRow.holds Try.pinned (OpenSpec.ofChange unitChecksSpec)

/-- ITS FALSE NEIGHBOUR: 'it returns false'. Refute it at one input. -/
def unitChecksWrong : ChangeSpec := { name := "unitChecks", fn := fun _ => fun
  | [d] => { results := [.lit (.bool false)], args := [d] }
  | _ => none }
def UnitChecksWrongFalsely : Prop := unitChecksRow.holds Try.pinned (OpenSpec.ofChange unitChecksWrong)

/-- 'phalanxlaw21.UnitTurns': WHATEVER THE INPUT: true; the input reads as it did. -/
def unitTurnsSpec : ChangeSpec := { name := "unitTurns", fn := fun _ => fun
  | [d1, d2] => { results := [.lit (.bool true)], args := [d1, d2] }
  | _ => none }
def unitTurnsRow : OpenClaim := { program := "ytnogldcjbkiboaa", sum := "e9045f9fd41856baf825cacf654a829a4133c2cfecd8a6d1c697fee0b2026f60", func := "phalanx/phalanxlaw21.UnitTurns", spec := "unitTurns", unfollowed := true, recurses := true, apart := false }
def UnitTurnsSaid : Prop := unitTurnsRow.holds Try.pinned (OpenSpec.ofChange unitTurnsSpec)

/-- ITS FALSE NEIGHBOUR: 'it returns false'. Refute it at one input. -/
def unitTurnsWrong : ChangeSpec := { name := "unitTurns", fn := fun _ => fun
  | [d1, d2] => { results := [.lit (.bool false)], args := [d1, d2] }
  | _ => none }
def UnitTurnsWrongFalsely : Prop := unitTurnsRow.holds Try.pinned (OpenSpec.ofChange unitTurnsWrong)

/-- 'phalanxlaw21.UnitKeeps': WHATEVER THE INPUT: true; the input reads as it did. -/
def unitKeepsSpec : ChangeSpec := { name := "unitKeeps", fn := fun _ => fun
  | [d1, d2, d3] => { results := [.lit (.bool true)], args := [d1, d2, d3] }
  | _ => none }
def unitKeepsRow : OpenClaim := { program := "ytnogldcjbkiboaa", sum := "e9045f9fd41856baf825cacf654a829a4133c2cfecd8a6d1c697fee0b2026f60", func := "phalanx/phalanxlaw21.UnitKeeps", spec := "unitKeeps", unfollowed := true, recurses := true, apart := false }
def UnitKeepsSaid : Prop := unitKeepsRow.holds Try.pinned (OpenSpec.ofChange unitKeepsSpec)

/-- ITS FALSE NEIGHBOUR: 'it returns false'. Refute it at one input. -/
def unitKeepsWrong : ChangeSpec := { name := "unitKeeps", fn := fun _ => fun
  | [d1, d2, d3] => { results := [.lit (.bool false)], args := [d1, d2, d3] }
  | _ => none }
def UnitKeepsWrongFalsely : Prop := unitKeepsRow.holds Try.pinned (OpenSpec.ofChange unitKeepsWrong)

/- THE SECOND FORM. 'bulk': how many values and letters a reading holds, each counted each time it is reached (what is shared counts as often as it is met; a slice's spare places count too). A statement '..UptoSaid' is the law's where the arguments, and the package variables that the reading takes, are together of bulk at most 1048576: NARROWER than '..Said'. Prove '..Said' where nothing that the law and all that it calls make is longer than what came in: it says more and counts as full. Else prove '..UptoSaid'. A law counts once. -/
mutual
def uptoBulk {H : Type} : DataW H → Nat
  | .lit (.string bytes) => bytes.length + 1
  | .lit _ => 1
  | .nil => 1
  | .ptr d => uptoBulk d + 1
  | .slice elems spare => uptoBulkAll elems + uptoBulkAll spare + 1
  | .agg parts => uptoBulkAll parts + 1
  | .iface _ d => uptoBulk d + 1
  | .map entries => uptoBulkEntries entries + 1
  | .held _ => 1
def uptoBulkAll {H : Type} : List (DataW H) → Nat
  | [] => 0
  | d :: r => uptoBulk d + uptoBulkAll r
def uptoBulkEntries {H : Type} : List (Lit × DataW H) → Nat
  | [] => 0
  | x :: r => uptoBulkEntry x + uptoBulkEntries r
def uptoBulkEntry {H : Type} : Lit × DataW H → Nat
  | (.string bytes, d) => bytes.length + uptoBulk d + 1
  | (_, d) => uptoBulk d + 1
 end
def uptoSmall : (H : Type) → List (DataW H) → Bool := fun _ ds => decide (uptoBulkAll ds ≤ 1048576)
def OpenSpec.upto (s : _root_.Go.ChangeSpec) : _root_.Go.OpenSpec := { _root_.Go.OpenSpec.ofChange s with cond := some uptoSmall }

/-- 'phalanxlaw21.UnitAims', WHERE WHAT IT READS IS OF BULK AT MOST 1048576: true; the input reads as it did. -/
def unitAimsUptoRow : OpenClaim := { program := "ytnogldcjbkiboaa", sum := "e9045f9fd41856baf825cacf654a829a4133c2cfecd8a6d1c697fee0b2026f60", func := "phalanx/phalanxlaw21.UnitAims", spec := "unitAims", unfollowed := true, recurses := true, apart := false, narrowed := true }
def UnitAimsUptoSaid : Prop := unitAimsUptoRow.holds Try.pinned (OpenSpec.upto unitAimsSpec)

/-- 'phalanxlaw21.UnitGives', WHERE WHAT IT READS IS OF BULK AT MOST 1048576: true; the input reads as it did. -/
def unitGivesUptoRow : OpenClaim := { program := "ytnogldcjbkiboaa", sum := "e9045f9fd41856baf825cacf654a829a4133c2cfecd8a6d1c697fee0b2026f60", func := "phalanx/phalanxlaw21.UnitGives", spec := "unitGives", unfollowed := true, recurses := true, apart := false, narrowed := true }
def UnitGivesUptoSaid : Prop := unitGivesUptoRow.holds Try.pinned (OpenSpec.upto unitGivesSpec)

/-- 'phalanxlaw21.UnitWalks', WHERE WHAT IT READS IS OF BULK AT MOST 1048576: true; the input reads as it did. -/
def unitWalksUptoRow : OpenClaim := { program := "ytnogldcjbkiboaa", sum := "e9045f9fd41856baf825cacf654a829a4133c2cfecd8a6d1c697fee0b2026f60", func := "phalanx/phalanxlaw21.UnitWalks", spec := "unitWalks", unfollowed := true, recurses := true, apart := false, narrowed := true }
def UnitWalksUptoSaid : Prop := unitWalksUptoRow.holds Try.pinned (OpenSpec.upto unitWalksSpec)

/-- 'phalanxlaw21.UnitChecks', WHERE WHAT IT READS IS OF BULK AT MOST 1048576: true; the input reads as it did. -/
def unitChecksUptoRow : OpenClaim := { program := "ytnogldcjbkiboaa", sum := "e9045f9fd41856baf825cacf654a829a4133c2cfecd8a6d1c697fee0b2026f60", func := "phalanx/phalanxlaw21.UnitChecks", spec := "unitChecks", unfollowed := true, recurses := true, apart := false, narrowed := true }
def UnitChecksUptoSaid : Prop := unitChecksUptoRow.holds Try.pinned (OpenSpec.upto unitChecksSpec)

/-- 'phalanxlaw21.UnitTurns', WHERE WHAT IT READS IS OF BULK AT MOST 1048576: true; the input reads as it did. -/
def unitTurnsUptoRow : OpenClaim := { program := "ytnogldcjbkiboaa", sum := "e9045f9fd41856baf825cacf654a829a4133c2cfecd8a6d1c697fee0b2026f60", func := "phalanx/phalanxlaw21.UnitTurns", spec := "unitTurns", unfollowed := true, recurses := true, apart := false, narrowed := true }
def UnitTurnsUptoSaid : Prop := unitTurnsUptoRow.holds Try.pinned (OpenSpec.upto unitTurnsSpec)

/-- 'phalanxlaw21.UnitKeeps', WHERE WHAT IT READS IS OF BULK AT MOST 1048576: true; the input reads as it did. -/
def unitKeepsUptoRow : OpenClaim := { program := "ytnogldcjbkiboaa", sum := "e9045f9fd41856baf825cacf654a829a4133c2cfecd8a6d1c697fee0b2026f60", func := "phalanx/phalanxlaw21.UnitKeeps", spec := "unitKeeps", unfollowed := true, recurses := true, apart := false, narrowed := true }
def UnitKeepsUptoSaid : Prop := unitKeepsUptoRow.holds Try.pinned (OpenSpec.upto unitKeepsSpec)

end Rows
end Go.Proofs.Ytnogldcjbkiboaa
