/-
  No cell of these rows narrows 'for every input' (looked for: loops, veiled, ifaces, maps, wideKeys, modest, calm, conditions, laid).
  DERIVED. THE GIVEN ROWS OF THIS SEAT. 8 by the template 'for every input the law returns true; each argument reads behind the call as it read before'; 0 by the template 'total and deterministic' (their statements: YtmejoegppiilmaaTotals.lean).
  GIVEN WITH THE SEED: the statements are not yours to turn. If you find one false, say at which input.
  Laid BY PROGRAM, IN A SANDBOX (cutbox-rows.mjs): the forced cells as the released guide's own fill.sh prints them over the translation 1e41eb9b691140a7… (all of the seat's roots in one cut). By AI agents, Wed Nov 11 2026. No macro, syntax, notation, axiom, sorry.
-/
import Derived.Test.YtmejoegppiilmaaChecked
import GoSem.Claim
import GoSem.ClaimJoined
import GoSem.ClaimMapViews
import Derived.JoinedTies
import Derived.KernelRfl
namespace Go.Proofs.Ytmejoegppiilmaa
/- THE CELL 'sum', in the pinned program and in every row, IS THE sha256 OF THE DUMP (.gsa) THAT YtmejoegppiilmaaProg.lean LOADS. Nothing in Lean hashes anything: it is a label: what it is worth is what the hold of that sum in a sandbox is worth. -/
noncomputable def Try.pinned : Pinned := { name := "ytmejoegppiilmaa", sum := "1e41eb9b691140a77105558897823b311c1d8cbd15d43b357b042cc1644be2f9", checked := Try.checked }
namespace Rows
def none {H : Type} : Left H := { results := [], args := [] }

/-- 'phalanxlaw10.RouteParts': WHATEVER THE INPUT: true; the input reads as it did. -/
def routePartsSpec : ChangeSpec := { name := "routeParts", fn := fun _ => fun
  | [d1, d2] => { results := [.lit (.bool true)], args := [d1, d2] }
  | _ => none }
def routePartsRow : OpenClaim := { program := "ytmejoegppiilmaa", sum := "1e41eb9b691140a77105558897823b311c1d8cbd15d43b357b042cc1644be2f9", func := "phalanx/phalanxlaw10.RouteParts", spec := "routeParts", inPlace := ["math/bits.Add64"], unfollowed := true, recurses := true, plainKeys := false, apart := false }
def RoutePartsSaid : Prop := routePartsRow.holds Try.pinned (OpenSpec.ofChange routePartsSpec)

/-- ITS FALSE NEIGHBOUR: 'it returns false'. Refute it at one input. -/
def routePartsWrong : ChangeSpec := { name := "routeParts", fn := fun _ => fun
  | [d1, d2] => { results := [.lit (.bool false)], args := [d1, d2] }
  | _ => none }
def RoutePartsWrongFalsely : Prop := routePartsRow.holds Try.pinned (OpenSpec.ofChange routePartsWrong)

/-- 'phalanxlaw10.RouteCosts': WHATEVER THE INPUT: true; the input reads as it did. -/
def routeCostsSpec : ChangeSpec := { name := "routeCosts", fn := fun _ => fun
  | [d1, d2] => { results := [.lit (.bool true)], args := [d1, d2] }
  | _ => none }
def routeCostsRow : OpenClaim := { program := "ytmejoegppiilmaa", sum := "1e41eb9b691140a77105558897823b311c1d8cbd15d43b357b042cc1644be2f9", func := "phalanx/phalanxlaw10.RouteCosts", spec := "routeCosts", inPlace := ["math/bits.Add64"], unfollowed := true, recurses := true, plainKeys := false, apart := false }
def RouteCostsSaid : Prop := routeCostsRow.holds Try.pinned (OpenSpec.ofChange routeCostsSpec)

/-- ITS FALSE NEIGHBOUR: 'it returns false'. Refute it at one input. -/
def routeCostsWrong : ChangeSpec := { name := "routeCosts", fn := fun _ => fun
  | [d1, d2] => { results := [.lit (.bool false)], args := [d1, d2] }
  | _ => none }
def RouteCostsWrongFalsely : Prop := routeCostsRow.holds Try.pinned (OpenSpec.ofChange routeCostsWrong)

/-- 'phalanxlaw19.SettleNearest': WHATEVER THE INPUT: true; the input reads as it did. -/
def settleNearestSpec : ChangeSpec := { name := "settleNearest", fn := fun _ => fun
  | [d1, d2] => { results := [.lit (.bool true)], args := [d1, d2] }
  | _ => none }
def settleNearestRow : OpenClaim := { program := "ytmejoegppiilmaa", sum := "1e41eb9b691140a77105558897823b311c1d8cbd15d43b357b042cc1644be2f9", func := "phalanx/phalanxlaw19.SettleNearest", spec := "settleNearest", inPlace := ["math/bits.Add64"], unfollowed := true, recurses := true, plainKeys := false, apart := false }
def SettleNearestSaid : Prop := settleNearestRow.holds Try.pinned (OpenSpec.ofChange settleNearestSpec)

/-- ITS FALSE NEIGHBOUR: 'it returns false'. Refute it at one input. -/
def settleNearestWrong : ChangeSpec := { name := "settleNearest", fn := fun _ => fun
  | [d1, d2] => { results := [.lit (.bool false)], args := [d1, d2] }
  | _ => none }
def SettleNearestWrongFalsely : Prop := settleNearestRow.holds Try.pinned (OpenSpec.ofChange settleNearestWrong)

/-- 'phalanxlaw19.SettleWills': WHATEVER THE INPUT: true; the input reads as it did. -/
def settleWillsSpec : ChangeSpec := { name := "settleWills", fn := fun _ => fun
  | [d1, d2] => { results := [.lit (.bool true)], args := [d1, d2] }
  | _ => none }
def settleWillsRow : OpenClaim := { program := "ytmejoegppiilmaa", sum := "1e41eb9b691140a77105558897823b311c1d8cbd15d43b357b042cc1644be2f9", func := "phalanx/phalanxlaw19.SettleWills", spec := "settleWills", inPlace := ["math/bits.Add64"], unfollowed := true, recurses := true, plainKeys := false, apart := false }
def SettleWillsSaid : Prop := settleWillsRow.holds Try.pinned (OpenSpec.ofChange settleWillsSpec)

/-- ITS FALSE NEIGHBOUR: 'it returns false'. Refute it at one input. -/
def settleWillsWrong : ChangeSpec := { name := "settleWills", fn := fun _ => fun
  | [d1, d2] => { results := [.lit (.bool false)], args := [d1, d2] }
  | _ => none }
def SettleWillsWrongFalsely : Prop := settleWillsRow.holds Try.pinned (OpenSpec.ofChange settleWillsWrong)

/-- 'phalanxlaw19.SettleTold': WHATEVER THE INPUT: true; the input reads as it did. -/
def settleToldSpec : ChangeSpec := { name := "settleTold", fn := fun _ => fun
  | [d1, d2] => { results := [.lit (.bool true)], args := [d1, d2] }
  | _ => none }
def settleToldRow : OpenClaim := { program := "ytmejoegppiilmaa", sum := "1e41eb9b691140a77105558897823b311c1d8cbd15d43b357b042cc1644be2f9", func := "phalanx/phalanxlaw19.SettleTold", spec := "settleTold", inPlace := ["math/bits.Add64"], unfollowed := true, recurses := true, plainKeys := false, apart := false }
def SettleToldSaid : Prop := settleToldRow.holds Try.pinned (OpenSpec.ofChange settleToldSpec)

/-- ITS FALSE NEIGHBOUR: 'it returns false'. Refute it at one input. -/
def settleToldWrong : ChangeSpec := { name := "settleTold", fn := fun _ => fun
  | [d1, d2] => { results := [.lit (.bool false)], args := [d1, d2] }
  | _ => none }
def SettleToldWrongFalsely : Prop := settleToldRow.holds Try.pinned (OpenSpec.ofChange settleToldWrong)

/-- 'phalanxlaw10.RouteFinds': WHATEVER THE INPUT: true; the input reads as it did. -/
def routeFindsSpec : ChangeSpec := { name := "routeFinds", fn := fun _ => fun
  | [d1, d2] => { results := [.lit (.bool true)], args := [d1, d2] }
  | _ => none }
def routeFindsRow : OpenClaim := { program := "ytmejoegppiilmaa", sum := "1e41eb9b691140a77105558897823b311c1d8cbd15d43b357b042cc1644be2f9", func := "phalanx/phalanxlaw10.RouteFinds", spec := "routeFinds", inPlace := ["math/bits.Add64"], unfollowed := true, recurses := true, plainKeys := false, apart := false }
def RouteFindsSaid : Prop := routeFindsRow.holds Try.pinned (OpenSpec.ofChange routeFindsSpec)

/-- ITS FALSE NEIGHBOUR: 'it returns false'. Refute it at one input. -/
def routeFindsWrong : ChangeSpec := { name := "routeFinds", fn := fun _ => fun
  | [d1, d2] => { results := [.lit (.bool false)], args := [d1, d2] }
  | _ => none }
def RouteFindsWrongFalsely : Prop := routeFindsRow.holds Try.pinned (OpenSpec.ofChange routeFindsWrong)

/-- 'phalanxlaw10.RouteBest': WHATEVER THE INPUT: true; the input reads as it did. -/
def routeBestSpec : ChangeSpec := { name := "routeBest", fn := fun _ => fun
  | [d1, d2] => { results := [.lit (.bool true)], args := [d1, d2] }
  | _ => none }
def routeBestRow : OpenClaim := { program := "ytmejoegppiilmaa", sum := "1e41eb9b691140a77105558897823b311c1d8cbd15d43b357b042cc1644be2f9", func := "phalanx/phalanxlaw10.RouteBest", spec := "routeBest", inPlace := ["math/bits.Add64"], unfollowed := true, recurses := true, plainKeys := false, apart := false }
def RouteBestSaid : Prop := routeBestRow.holds Try.pinned (OpenSpec.ofChange routeBestSpec)

/-- ITS FALSE NEIGHBOUR: 'it returns false'. Refute it at one input. -/
def routeBestWrong : ChangeSpec := { name := "routeBest", fn := fun _ => fun
  | [d1, d2] => { results := [.lit (.bool false)], args := [d1, d2] }
  | _ => none }
def RouteBestWrongFalsely : Prop := routeBestRow.holds Try.pinned (OpenSpec.ofChange routeBestWrong)

/-- 'phalanxlaw10.RouteTriangle': WHATEVER THE INPUT: true; the input reads as it did. -/
def routeTriangleSpec : ChangeSpec := { name := "routeTriangle", fn := fun _ => fun
  | [d1, d2, d3] => { results := [.lit (.bool true)], args := [d1, d2, d3] }
  | _ => none }
def routeTriangleRow : OpenClaim := { program := "ytmejoegppiilmaa", sum := "1e41eb9b691140a77105558897823b311c1d8cbd15d43b357b042cc1644be2f9", func := "phalanx/phalanxlaw10.RouteTriangle", spec := "routeTriangle", inPlace := ["math/bits.Add64"], unfollowed := true, recurses := true, plainKeys := false, apart := false }
def RouteTriangleSaid : Prop := routeTriangleRow.holds Try.pinned (OpenSpec.ofChange routeTriangleSpec)

/-- ITS FALSE NEIGHBOUR: 'it returns false'. Refute it at one input. -/
def routeTriangleWrong : ChangeSpec := { name := "routeTriangle", fn := fun _ => fun
  | [d1, d2, d3] => { results := [.lit (.bool false)], args := [d1, d2, d3] }
  | _ => none }
def RouteTriangleWrongFalsely : Prop := routeTriangleRow.holds Try.pinned (OpenSpec.ofChange routeTriangleWrong)

/- THE SECOND FORM. 'bulk': how many values and letters a reading holds, each counted each time it is reached (what is shared counts as often as it is met; a slice's spare places count too). A statement '..UptoSaid' is the law's where the arguments, and the package variables that the reading takes, are together of bulk at most 1048576: NARROWER than '..Said'. Prove '..Said' where nothing that the law and all that it calls make is longer than what came in: it says more and counts as full. Else prove '..UptoSaid'. A law counts once. -/
mutual
def uptoBulk {H : Type} : DataW H → Nat
  | .lit (.string bytes) => bytes.length + 1
  | .lit _ => 1
  | .nil => 1
  | .ptr d => uptoBulk d + 1
  | .slice elems spare => uptoBulkAll elems + uptoBulkAll spare + 1
  | .agg parts => uptoBulkAll parts + 1
  | .iface _ d => uptoBulk d + 1
  | .map entries => uptoBulkEntries entries + 1
  | .held _ => 1
def uptoBulkAll {H : Type} : List (DataW H) → Nat
  | [] => 0
  | d :: r => uptoBulk d + uptoBulkAll r
def uptoBulkEntries {H : Type} : List (Lit × DataW H) → Nat
  | [] => 0
  | x :: r => uptoBulkEntry x + uptoBulkEntries r
def uptoBulkEntry {H : Type} : Lit × DataW H → Nat
  | (.string bytes, d) => bytes.length + uptoBulk d + 1
  | (_, d) => uptoBulk d + 1
 end
def uptoSmall : (H : Type) → List (DataW H) → Bool := fun _ ds => decide (uptoBulkAll ds ≤ 1048576)
def OpenSpec.upto (s : _root_.Go.ChangeSpec) : _root_.Go.OpenSpec := { _root_.Go.OpenSpec.ofChange s with cond := some uptoSmall }

/-- 'phalanxlaw10.RouteParts', WHERE WHAT IT READS IS OF BULK AT MOST 1048576: true; the input reads as it did. -/
def routePartsUptoRow : OpenClaim := { program := "ytmejoegppiilmaa", sum := "1e41eb9b691140a77105558897823b311c1d8cbd15d43b357b042cc1644be2f9", func := "phalanx/phalanxlaw10.RouteParts", spec := "routeParts", inPlace := ["math/bits.Add64"], unfollowed := true, recurses := true, plainKeys := false, apart := false, narrowed := true }
def RoutePartsUptoSaid : Prop := routePartsUptoRow.holds Try.pinned (OpenSpec.upto routePartsSpec)

/-- 'phalanxlaw10.RouteCosts', WHERE WHAT IT READS IS OF BULK AT MOST 1048576: true; the input reads as it did. -/
def routeCostsUptoRow : OpenClaim := { program := "ytmejoegppiilmaa", sum := "1e41eb9b691140a77105558897823b311c1d8cbd15d43b357b042cc1644be2f9", func := "phalanx/phalanxlaw10.RouteCosts", spec := "routeCosts", inPlace := ["math/bits.Add64"], unfollowed := true, recurses := true, plainKeys := false, apart := false, narrowed := true }
def RouteCostsUptoSaid : Prop := routeCostsUptoRow.holds Try.pinned (OpenSpec.upto routeCostsSpec)

/-- 'phalanxlaw19.SettleNearest', WHERE WHAT IT READS IS OF BULK AT MOST 1048576: true; the input reads as it did. -/
def settleNearestUptoRow : OpenClaim := { program := "ytmejoegppiilmaa", sum := "1e41eb9b691140a77105558897823b311c1d8cbd15d43b357b042cc1644be2f9", func := "phalanx/phalanxlaw19.SettleNearest", spec := "settleNearest", inPlace := ["math/bits.Add64"], unfollowed := true, recurses := true, plainKeys := false, apart := false, narrowed := true }
def SettleNearestUptoSaid : Prop := settleNearestUptoRow.holds Try.pinned (OpenSpec.upto settleNearestSpec)

/-- 'phalanxlaw19.SettleWills', WHERE WHAT IT READS IS OF BULK AT MOST 1048576: true; the input reads as it did. -/
def settleWillsUptoRow : OpenClaim := { program := "ytmejoegppiilmaa", sum := "1e41eb9b691140a77105558897823b311c1d8cbd15d43b357b042cc1644be2f9", func := "phalanx/phalanxlaw19.SettleWills", spec := "settleWills", inPlace := ["math/bits.Add64"], unfollowed := true, recurses := true, plainKeys := false, apart := false, narrowed := true }
def SettleWillsUptoSaid : Prop := settleWillsUptoRow.holds Try.pinned (OpenSpec.upto settleWillsSpec)

/-- 'phalanxlaw19.SettleTold', WHERE WHAT IT READS IS OF BULK AT MOST 1048576: true; the input reads as it did. -/
def settleToldUptoRow : OpenClaim := { program := "ytmejoegppiilmaa", sum := "1e41eb9b691140a77105558897823b311c1d8cbd15d43b357b042cc1644be2f9", func := "phalanx/phalanxlaw19.SettleTold", spec := "settleTold", inPlace := ["math/bits.Add64"], unfollowed := true, recurses := true, plainKeys := false, apart := false, narrowed := true }
def SettleToldUptoSaid : Prop := settleToldUptoRow.holds Try.pinned (OpenSpec.upto settleToldSpec)

/-- 'phalanxlaw10.RouteFinds', WHERE WHAT IT READS IS OF BULK AT MOST 1048576: true; the input reads as it did. -/
def routeFindsUptoRow : OpenClaim := { program := "ytmejoegppiilmaa", sum := "1e41eb9b691140a77105558897823b311c1d8cbd15d43b357b042cc1644be2f9", func := "phalanx/phalanxlaw10.RouteFinds", spec := "routeFinds", inPlace := ["math/bits.Add64"], unfollowed := true, recurses := true, plainKeys := false, apart := false, narrowed := true }
def RouteFindsUptoSaid : Prop := routeFindsUptoRow.holds Try.pinned (OpenSpec.upto routeFindsSpec)

/-- 'phalanxlaw10.RouteBest', WHERE WHAT IT READS IS OF BULK AT MOST 1048576: true; the input reads as it did. -/
def routeBestUptoRow : OpenClaim := { program := "ytmejoegppiilmaa", sum := "1e41eb9b691140a77105558897823b311c1d8cbd15d43b357b042cc1644be2f9", func := "phalanx/phalanxlaw10.RouteBest", spec := "routeBest", inPlace := ["math/bits.Add64"], unfollowed := true, recurses := true, plainKeys := false, apart := false, narrowed := true }
def RouteBestUptoSaid : Prop := routeBestUptoRow.holds Try.pinned (OpenSpec.upto routeBestSpec)

/-- 'phalanxlaw10.RouteTriangle', WHERE WHAT IT READS IS OF BULK AT MOST 1048576: true; the input reads as it did. -/
def routeTriangleUptoRow : OpenClaim := { program := "ytmejoegppiilmaa", sum := "1e41eb9b691140a77105558897823b311c1d8cbd15d43b357b042cc1644be2f9", func := "phalanx/phalanxlaw10.RouteTriangle", spec := "routeTriangle", inPlace := ["math/bits.Add64"], unfollowed := true, recurses := true, plainKeys := false, apart := false, narrowed := true }
def RouteTriangleUptoSaid : Prop := routeTriangleUptoRow.holds Try.pinned (OpenSpec.upto routeTriangleSpec)

end Rows
end Go.Proofs.Ytmejoegppiilmaa
