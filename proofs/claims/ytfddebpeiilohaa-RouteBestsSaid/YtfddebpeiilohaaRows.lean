/-
  No cell of these rows narrows 'for every input' (looked for: loops, veiled, ifaces, maps, wideKeys, modest, calm, conditions, laid).
  DERIVED. THE GIVEN ROWS OF THIS SEAT. 6 by the template 'for every input the law returns true; each argument reads behind the call as it read before'; 0 by the template 'total and deterministic' (their statements: YtfddebpeiilohaaTotals.lean).
  GIVEN WITH THE SEED: the statements are not yours to turn. If you find one false, say at which input.
  Laid BY PROGRAM, IN A SANDBOX (cutbox-rows.mjs): the forced cells as the released guide's own fill.sh prints them over the translation 5b7b377de999692c… (all of the seat's roots in one cut). By AI agents, Wed Nov 11 2026. No macro, syntax, notation, axiom, sorry.
-/
import Derived.Test.YtfddebpeiilohaaChecked
import GoSem.Claim
import GoSem.ClaimJoined
import GoSem.ClaimMapViews
import Derived.JoinedTies
import Derived.KernelRfl
namespace Go.Proofs.Ytfddebpeiilohaa
/- THE CELL 'sum', in the pinned program and in every row, IS THE sha256 OF THE DUMP (.gsa) THAT YtfddebpeiilohaaProg.lean LOADS. Nothing in Lean hashes anything: it is a label: what it is worth is what the hold of that sum in a sandbox is worth. -/
noncomputable def Try.pinned : Pinned := { name := "ytfddebpeiilohaa", sum := "5b7b377de999692c47d953dd0fe3faa0ad02f5f4c66d003bcbab7e335fc58a81", checked := Try.checked }
namespace Rows
def none {H : Type} : Left H := { results := [], args := [] }

/-- 'bikesharelaw43.RouteBests': WHATEVER THE INPUT: true; the input reads as it did. -/
def routeBestsSpec : ChangeSpec := { name := "routeBests", fn := fun _ => fun
  | [d1, d2] => { results := [.lit (.bool true)], args := [d1, d2] }
  | _ => none }
def routeBestsRow : OpenClaim := { program := "ytfddebpeiilohaa", sum := "5b7b377de999692c47d953dd0fe3faa0ad02f5f4c66d003bcbab7e335fc58a81", func := "bikeshare/bikesharelaw43.RouteBests", spec := "routeBests", unfollowed := true, recurses := true, apart := false }
def RouteBestsSaid : Prop := routeBestsRow.holds Try.pinned (OpenSpec.ofChange routeBestsSpec)

/-- ITS FALSE NEIGHBOUR: 'it returns false'. Refute it at one input. -/
def routeBestsWrong : ChangeSpec := { name := "routeBests", fn := fun _ => fun
  | [d1, d2] => { results := [.lit (.bool false)], args := [d1, d2] }
  | _ => none }
def RouteBestsWrongFalsely : Prop := routeBestsRow.holds Try.pinned (OpenSpec.ofChange routeBestsWrong)

/-- 'bikesharelaw43.RouteMosts': WHATEVER THE INPUT: true; the input reads as it did. -/
def routeMostsSpec : ChangeSpec := { name := "routeMosts", fn := fun _ => fun
  | [d1, d2] => { results := [.lit (.bool true)], args := [d1, d2] }
  | _ => none }
def routeMostsRow : OpenClaim := { program := "ytfddebpeiilohaa", sum := "5b7b377de999692c47d953dd0fe3faa0ad02f5f4c66d003bcbab7e335fc58a81", func := "bikeshare/bikesharelaw43.RouteMosts", spec := "routeMosts", unfollowed := true, recurses := true, apart := false }
def RouteMostsSaid : Prop := routeMostsRow.holds Try.pinned (OpenSpec.ofChange routeMostsSpec)

/-- ITS FALSE NEIGHBOUR: 'it returns false'. Refute it at one input. -/
def routeMostsWrong : ChangeSpec := { name := "routeMosts", fn := fun _ => fun
  | [d1, d2] => { results := [.lit (.bool false)], args := [d1, d2] }
  | _ => none }
def RouteMostsWrongFalsely : Prop := routeMostsRow.holds Try.pinned (OpenSpec.ofChange routeMostsWrong)

/-- 'bikesharelaw43.RouteBest': WHATEVER THE INPUT: true; the input reads as it did. -/
def routeBestSpec : ChangeSpec := { name := "routeBest", fn := fun _ => fun
  | [d1, d2, d3] => { results := [.lit (.bool true)], args := [d1, d2, d3] }
  | _ => none }
def routeBestRow : OpenClaim := { program := "ytfddebpeiilohaa", sum := "5b7b377de999692c47d953dd0fe3faa0ad02f5f4c66d003bcbab7e335fc58a81", func := "bikeshare/bikesharelaw43.RouteBest", spec := "routeBest", unfollowed := true, recurses := true, apart := false }
def RouteBestSaid : Prop := routeBestRow.holds Try.pinned (OpenSpec.ofChange routeBestSpec)

/-- ITS FALSE NEIGHBOUR: 'it returns false'. Refute it at one input. -/
def routeBestWrong : ChangeSpec := { name := "routeBest", fn := fun _ => fun
  | [d1, d2, d3] => { results := [.lit (.bool false)], args := [d1, d2, d3] }
  | _ => none }
def RouteBestWrongFalsely : Prop := routeBestRow.holds Try.pinned (OpenSpec.ofChange routeBestWrong)

/-- 'bikesharelaw43.RouteMost': WHATEVER THE INPUT: true; the input reads as it did. -/
def routeMostSpec : ChangeSpec := { name := "routeMost", fn := fun _ => fun
  | [d1, d2, d3] => { results := [.lit (.bool true)], args := [d1, d2, d3] }
  | _ => none }
def routeMostRow : OpenClaim := { program := "ytfddebpeiilohaa", sum := "5b7b377de999692c47d953dd0fe3faa0ad02f5f4c66d003bcbab7e335fc58a81", func := "bikeshare/bikesharelaw43.RouteMost", spec := "routeMost", unfollowed := true, recurses := true, apart := false }
def RouteMostSaid : Prop := routeMostRow.holds Try.pinned (OpenSpec.ofChange routeMostSpec)

/-- ITS FALSE NEIGHBOUR: 'it returns false'. Refute it at one input. -/
def routeMostWrong : ChangeSpec := { name := "routeMost", fn := fun _ => fun
  | [d1, d2, d3] => { results := [.lit (.bool false)], args := [d1, d2, d3] }
  | _ => none }
def RouteMostWrongFalsely : Prop := routeMostRow.holds Try.pinned (OpenSpec.ofChange routeMostWrong)

/-- 'bikesharelaw43.RouteBoth': WHATEVER THE INPUT: true; the input reads as it did. -/
def routeBothSpec : ChangeSpec := { name := "routeBoth", fn := fun _ => fun
  | [d1, d2] => { results := [.lit (.bool true)], args := [d1, d2] }
  | _ => none }
def routeBothRow : OpenClaim := { program := "ytfddebpeiilohaa", sum := "5b7b377de999692c47d953dd0fe3faa0ad02f5f4c66d003bcbab7e335fc58a81", func := "bikeshare/bikesharelaw43.RouteBoth", spec := "routeBoth", unfollowed := true, recurses := true, apart := false }
def RouteBothSaid : Prop := routeBothRow.holds Try.pinned (OpenSpec.ofChange routeBothSpec)

/-- ITS FALSE NEIGHBOUR: 'it returns false'. Refute it at one input. -/
def routeBothWrong : ChangeSpec := { name := "routeBoth", fn := fun _ => fun
  | [d1, d2] => { results := [.lit (.bool false)], args := [d1, d2] }
  | _ => none }
def RouteBothWrongFalsely : Prop := routeBothRow.holds Try.pinned (OpenSpec.ofChange routeBothWrong)

/-- 'bikesharelaw43.RouteMore': WHATEVER THE INPUT: true; the input reads as it did. -/
def routeMoreSpec : ChangeSpec := { name := "routeMore", fn := fun _ => fun
  | [d1, d2, d3] => { results := [.lit (.bool true)], args := [d1, d2, d3] }
  | _ => none }
def routeMoreRow : OpenClaim := { program := "ytfddebpeiilohaa", sum := "5b7b377de999692c47d953dd0fe3faa0ad02f5f4c66d003bcbab7e335fc58a81", func := "bikeshare/bikesharelaw43.RouteMore", spec := "routeMore", unfollowed := true, recurses := true, apart := false }
def RouteMoreSaid : Prop := routeMoreRow.holds Try.pinned (OpenSpec.ofChange routeMoreSpec)

/-- ITS FALSE NEIGHBOUR: 'it returns false'. Refute it at one input. -/
def routeMoreWrong : ChangeSpec := { name := "routeMore", fn := fun _ => fun
  | [d1, d2, d3] => { results := [.lit (.bool false)], args := [d1, d2, d3] }
  | _ => none }
def RouteMoreWrongFalsely : Prop := routeMoreRow.holds Try.pinned (OpenSpec.ofChange routeMoreWrong)

/- THE SECOND FORM. 'bulk': how many values and letters a reading holds, each counted each time it is reached (what is shared counts as often as it is met; a slice's spare places count too). A statement '..UptoSaid' is the law's where the arguments, and the package variables that the reading takes, are together of bulk at most 1048576: NARROWER than '..Said'. Prove '..Said' where nothing that the law and all that it calls make is longer than what came in: it says more and counts as full. Else prove '..UptoSaid'. A law counts once. -/
mutual
def uptoBulk {H : Type} : DataW H → Nat
  | .lit (.string bytes) => bytes.length + 1
  | .lit _ => 1
  | .nil => 1
  | .ptr d => uptoBulk d + 1
  | .slice elems spare => uptoBulkAll elems + uptoBulkAll spare + 1
  | .agg parts => uptoBulkAll parts + 1
  | .iface _ d => uptoBulk d + 1
  | .map entries => uptoBulkEntries entries + 1
  | .held _ => 1
def uptoBulkAll {H : Type} : List (DataW H) → Nat
  | [] => 0
  | d :: r => uptoBulk d + uptoBulkAll r
def uptoBulkEntries {H : Type} : List (Lit × DataW H) → Nat
  | [] => 0
  | x :: r => uptoBulkEntry x + uptoBulkEntries r
def uptoBulkEntry {H : Type} : Lit × DataW H → Nat
  | (.string bytes, d) => bytes.length + uptoBulk d + 1
  | (_, d) => uptoBulk d + 1
 end
def uptoSmall : (H : Type) → List (DataW H) → Bool := fun _ ds => decide (uptoBulkAll ds ≤ 1048576)
def OpenSpec.upto (s : _root_.Go.ChangeSpec) : _root_.Go.OpenSpec := { _root_.Go.OpenSpec.ofChange s with cond := some uptoSmall }

/-- 'bikesharelaw43.RouteBests', WHERE WHAT IT READS IS OF BULK AT MOST 1048576: true; the input reads as it did. -/
def routeBestsUptoRow : OpenClaim := { program := "ytfddebpeiilohaa", sum := "5b7b377de999692c47d953dd0fe3faa0ad02f5f4c66d003bcbab7e335fc58a81", func := "bikeshare/bikesharelaw43.RouteBests", spec := "routeBests", unfollowed := true, recurses := true, apart := false, narrowed := true }
def RouteBestsUptoSaid : Prop := routeBestsUptoRow.holds Try.pinned (OpenSpec.upto routeBestsSpec)

/-- 'bikesharelaw43.RouteMosts', WHERE WHAT IT READS IS OF BULK AT MOST 1048576: true; the input reads as it did. -/
def routeMostsUptoRow : OpenClaim := { program := "ytfddebpeiilohaa", sum := "5b7b377de999692c47d953dd0fe3faa0ad02f5f4c66d003bcbab7e335fc58a81", func := "bikeshare/bikesharelaw43.RouteMosts", spec := "routeMosts", unfollowed := true, recurses := true, apart := false, narrowed := true }
def RouteMostsUptoSaid : Prop := routeMostsUptoRow.holds Try.pinned (OpenSpec.upto routeMostsSpec)

/-- 'bikesharelaw43.RouteBest', WHERE WHAT IT READS IS OF BULK AT MOST 1048576: true; the input reads as it did. -/
def routeBestUptoRow : OpenClaim := { program := "ytfddebpeiilohaa", sum := "5b7b377de999692c47d953dd0fe3faa0ad02f5f4c66d003bcbab7e335fc58a81", func := "bikeshare/bikesharelaw43.RouteBest", spec := "routeBest", unfollowed := true, recurses := true, apart := false, narrowed := true }
def RouteBestUptoSaid : Prop := routeBestUptoRow.holds Try.pinned (OpenSpec.upto routeBestSpec)

/-- 'bikesharelaw43.RouteMost', WHERE WHAT IT READS IS OF BULK AT MOST 1048576: true; the input reads as it did. -/
def routeMostUptoRow : OpenClaim := { program := "ytfddebpeiilohaa", sum := "5b7b377de999692c47d953dd0fe3faa0ad02f5f4c66d003bcbab7e335fc58a81", func := "bikeshare/bikesharelaw43.RouteMost", spec := "routeMost", unfollowed := true, recurses := true, apart := false, narrowed := true }
def RouteMostUptoSaid : Prop := routeMostUptoRow.holds Try.pinned (OpenSpec.upto routeMostSpec)

/-- 'bikesharelaw43.RouteBoth', WHERE WHAT IT READS IS OF BULK AT MOST 1048576: true; the input reads as it did. -/
def routeBothUptoRow : OpenClaim := { program := "ytfddebpeiilohaa", sum := "5b7b377de999692c47d953dd0fe3faa0ad02f5f4c66d003bcbab7e335fc58a81", func := "bikeshare/bikesharelaw43.RouteBoth", spec := "routeBoth", unfollowed := true, recurses := true, apart := false, narrowed := true }
def RouteBothUptoSaid : Prop := routeBothUptoRow.holds Try.pinned (OpenSpec.upto routeBothSpec)

/-- 'bikesharelaw43.RouteMore', WHERE WHAT IT READS IS OF BULK AT MOST 1048576: true; the input reads as it did. -/
def routeMoreUptoRow : OpenClaim := { program := "ytfddebpeiilohaa", sum := "5b7b377de999692c47d953dd0fe3faa0ad02f5f4c66d003bcbab7e335fc58a81", func := "bikeshare/bikesharelaw43.RouteMore", spec := "routeMore", unfollowed := true, recurses := true, apart := false, narrowed := true }
def RouteMoreUptoSaid : Prop := routeMoreUptoRow.holds Try.pinned (OpenSpec.upto routeMoreSpec)

end Rows
end Go.Proofs.Ytfddebpeiilohaa
