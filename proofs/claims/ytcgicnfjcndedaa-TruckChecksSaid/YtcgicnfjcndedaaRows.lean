/-
  No cell of these rows narrows 'for every input' (looked for: loops, veiled, ifaces, maps, wideKeys, modest, calm, conditions, laid).
  DERIVED. THE GIVEN ROWS OF THIS SEAT. 7 by the template 'for every input the law returns true; each argument reads behind the call as it read before'; 0 by the template 'total and deterministic' (their statements: YtcgicnfjcndedaaTotals.lean).
  GIVEN WITH THE SEED: the statements are not yours to turn. If you find one false, say at which input.
  Laid BY PROGRAM, IN A SANDBOX (cutbox-rows.mjs): the forced cells as the released guide's own fill.sh prints them over the translation 63a6b101d7aec61f… (all of the seat's roots in one cut). By AI agents, Wed Nov 11 2026. No macro, syntax, notation, axiom, sorry.
-/
import Derived.Test.YtcgicnfjcndedaaChecked
import GoSem.Claim
import GoSem.ClaimJoined
import GoSem.ClaimMapViews
import Derived.JoinedTies
import Derived.KernelRfl
namespace Go.Proofs.Ytcgicnfjcndedaa
/- THE CELL 'sum', in the pinned program and in every row, IS THE sha256 OF THE DUMP (.gsa) THAT YtcgicnfjcndedaaProg.lean LOADS. Nothing in Lean hashes anything: it is a label: what it is worth is what the hold of that sum in a sandbox is worth. -/
noncomputable def Try.pinned : Pinned := { name := "ytcgicnfjcndedaa", sum := "63a6b101d7aec61ffd48cea1c5e2ebd0cb205b63c0919d044f475a17f1ebc253", checked := Try.checked }
namespace Rows
def none {H : Type} : Left H := { results := [], args := [] }

/-- 'bikesharelaw42.TruckChecks': WHATEVER THE INPUT: true; the input reads as it did. -/
def truckChecksSpec : ChangeSpec := { name := "truckChecks", fn := fun _ => fun
  | [d] => { results := [.lit (.bool true)], args := [d] }
  | _ => none }
def truckChecksRow : OpenClaim := { program := "ytcgicnfjcndedaa", sum := "63a6b101d7aec61ffd48cea1c5e2ebd0cb205b63c0919d044f475a17f1ebc253", func := "bikeshare/bikesharelaw42.TruckChecks", spec := "truckChecks", unfollowed := true, recurses := true, apart := false }
def TruckChecksSaid : Prop := truckChecksRow.holds Try.pinned (OpenSpec.ofChange truckChecksSpec)

/-- ITS FALSE NEIGHBOUR: 'it returns false'. Refute it at one input. -/
def truckChecksWrong : ChangeSpec := { name := "truckChecks", fn := fun _ => fun
  | [d] => { results := [.lit (.bool false)], args := [d] }
  | _ => none }
def TruckChecksWrongFalsely : Prop := truckChecksRow.holds Try.pinned (OpenSpec.ofChange truckChecksWrong)

/-- 'bikesharelaw42.TruckWalks': WHATEVER THE INPUT: true; the input reads as it did. -/
def truckWalksSpec : ChangeSpec := { name := "truckWalks", fn := fun _ => fun
  | [d1, d2] => { results := [.lit (.bool true)], args := [d1, d2] }
  | _ => none }
def truckWalksRow : OpenClaim := { program := "ytcgicnfjcndedaa", sum := "63a6b101d7aec61ffd48cea1c5e2ebd0cb205b63c0919d044f475a17f1ebc253", func := "bikeshare/bikesharelaw42.TruckWalks", spec := "truckWalks", unfollowed := true, recurses := true, apart := false }
def TruckWalksSaid : Prop := truckWalksRow.holds Try.pinned (OpenSpec.ofChange truckWalksSpec)

/-- ITS FALSE NEIGHBOUR: 'it returns false'. Refute it at one input. -/
def truckWalksWrong : ChangeSpec := { name := "truckWalks", fn := fun _ => fun
  | [d1, d2] => { results := [.lit (.bool false)], args := [d1, d2] }
  | _ => none }
def TruckWalksWrongFalsely : Prop := truckWalksRow.holds Try.pinned (OpenSpec.ofChange truckWalksWrong)

/-- 'bikesharelaw42.TruckFeasible': WHATEVER THE INPUT: true; the input reads as it did. -/
def truckFeasibleSpec : ChangeSpec := { name := "truckFeasible", fn := fun _ => fun
  | [d1, d2] => { results := [.lit (.bool true)], args := [d1, d2] }
  | _ => none }
def truckFeasibleRow : OpenClaim := { program := "ytcgicnfjcndedaa", sum := "63a6b101d7aec61ffd48cea1c5e2ebd0cb205b63c0919d044f475a17f1ebc253", func := "bikeshare/bikesharelaw42.TruckFeasible", spec := "truckFeasible", unfollowed := true, recurses := true, apart := false }
def TruckFeasibleSaid : Prop := truckFeasibleRow.holds Try.pinned (OpenSpec.ofChange truckFeasibleSpec)

/-- ITS FALSE NEIGHBOUR: 'it returns false'. Refute it at one input. -/
def truckFeasibleWrong : ChangeSpec := { name := "truckFeasible", fn := fun _ => fun
  | [d1, d2] => { results := [.lit (.bool false)], args := [d1, d2] }
  | _ => none }
def TruckFeasibleWrongFalsely : Prop := truckFeasibleRow.holds Try.pinned (OpenSpec.ofChange truckFeasibleWrong)

/-- 'bikesharelaw42.TruckWalk': WHATEVER THE INPUT: true; the input reads as it did. -/
def truckWalkSpec : ChangeSpec := { name := "truckWalk", fn := fun _ => fun
  | [d1, d2] => { results := [.lit (.bool true)], args := [d1, d2] }
  | _ => none }
def truckWalkRow : OpenClaim := { program := "ytcgicnfjcndedaa", sum := "63a6b101d7aec61ffd48cea1c5e2ebd0cb205b63c0919d044f475a17f1ebc253", func := "bikeshare/bikesharelaw42.TruckWalk", spec := "truckWalk", unfollowed := true, recurses := true, apart := false }
def TruckWalkSaid : Prop := truckWalkRow.holds Try.pinned (OpenSpec.ofChange truckWalkSpec)

/-- ITS FALSE NEIGHBOUR: 'it returns false'. Refute it at one input. -/
def truckWalkWrong : ChangeSpec := { name := "truckWalk", fn := fun _ => fun
  | [d1, d2] => { results := [.lit (.bool false)], args := [d1, d2] }
  | _ => none }
def TruckWalkWrongFalsely : Prop := truckWalkRow.holds Try.pinned (OpenSpec.ofChange truckWalkWrong)

/-- 'bikesharelaw42.TruckBegins': WHATEVER THE INPUT: true; the input reads as it did. -/
def truckBeginsSpec : ChangeSpec := { name := "truckBegins", fn := fun _ => fun
  | [d1, d2] => { results := [.lit (.bool true)], args := [d1, d2] }
  | _ => none }
def truckBeginsRow : OpenClaim := { program := "ytcgicnfjcndedaa", sum := "63a6b101d7aec61ffd48cea1c5e2ebd0cb205b63c0919d044f475a17f1ebc253", func := "bikeshare/bikesharelaw42.TruckBegins", spec := "truckBegins", unfollowed := true, recurses := true, apart := false }
def TruckBeginsSaid : Prop := truckBeginsRow.holds Try.pinned (OpenSpec.ofChange truckBeginsSpec)

/-- ITS FALSE NEIGHBOUR: 'it returns false'. Refute it at one input. -/
def truckBeginsWrong : ChangeSpec := { name := "truckBegins", fn := fun _ => fun
  | [d1, d2] => { results := [.lit (.bool false)], args := [d1, d2] }
  | _ => none }
def TruckBeginsWrongFalsely : Prop := truckBeginsRow.holds Try.pinned (OpenSpec.ofChange truckBeginsWrong)

/-- 'bikesharelaw42.TruckEases': WHATEVER THE INPUT: true; the input reads as it did. -/
def truckEasesSpec : ChangeSpec := { name := "truckEases", fn := fun _ => fun
  | [d1, d2, d3, d4] => { results := [.lit (.bool true)], args := [d1, d2, d3, d4] }
  | _ => none }
def truckEasesRow : OpenClaim := { program := "ytcgicnfjcndedaa", sum := "63a6b101d7aec61ffd48cea1c5e2ebd0cb205b63c0919d044f475a17f1ebc253", func := "bikeshare/bikesharelaw42.TruckEases", spec := "truckEases", unfollowed := true, recurses := true, apart := false }
def TruckEasesSaid : Prop := truckEasesRow.holds Try.pinned (OpenSpec.ofChange truckEasesSpec)

/-- ITS FALSE NEIGHBOUR: 'it returns false'. Refute it at one input. -/
def truckEasesWrong : ChangeSpec := { name := "truckEases", fn := fun _ => fun
  | [d1, d2, d3, d4] => { results := [.lit (.bool false)], args := [d1, d2, d3, d4] }
  | _ => none }
def TruckEasesWrongFalsely : Prop := truckEasesRow.holds Try.pinned (OpenSpec.ofChange truckEasesWrong)

/-- 'bikesharelaw42.TruckServes': WHATEVER THE INPUT: true; the input reads as it did. -/
def truckServesSpec : ChangeSpec := { name := "truckServes", fn := fun _ => fun
  | [d1, d2] => { results := [.lit (.bool true)], args := [d1, d2] }
  | _ => none }
def truckServesRow : OpenClaim := { program := "ytcgicnfjcndedaa", sum := "63a6b101d7aec61ffd48cea1c5e2ebd0cb205b63c0919d044f475a17f1ebc253", func := "bikeshare/bikesharelaw42.TruckServes", spec := "truckServes", unfollowed := true, recurses := true, apart := false }
def TruckServesSaid : Prop := truckServesRow.holds Try.pinned (OpenSpec.ofChange truckServesSpec)

/-- ITS FALSE NEIGHBOUR: 'it returns false'. Refute it at one input. -/
def truckServesWrong : ChangeSpec := { name := "truckServes", fn := fun _ => fun
  | [d1, d2] => { results := [.lit (.bool false)], args := [d1, d2] }
  | _ => none }
def TruckServesWrongFalsely : Prop := truckServesRow.holds Try.pinned (OpenSpec.ofChange truckServesWrong)

/- THE SECOND FORM. 'bulk': how many values and letters a reading holds, each counted each time it is reached (what is shared counts as often as it is met; a slice's spare places count too). A statement '..UptoSaid' is the law's where the arguments, and the package variables that the reading takes, are together of bulk at most 1048576: NARROWER than '..Said'. Prove '..Said' where nothing that the law and all that it calls make is longer than what came in: it says more and counts as full. Else prove '..UptoSaid'. A law counts once. -/
mutual
def uptoBulk {H : Type} : DataW H → Nat
  | .lit (.string bytes) => bytes.length + 1
  | .lit _ => 1
  | .nil => 1
  | .ptr d => uptoBulk d + 1
  | .slice elems spare => uptoBulkAll elems + uptoBulkAll spare + 1
  | .agg parts => uptoBulkAll parts + 1
  | .iface _ d => uptoBulk d + 1
  | .map entries => uptoBulkEntries entries + 1
  | .held _ => 1
def uptoBulkAll {H : Type} : List (DataW H) → Nat
  | [] => 0
  | d :: r => uptoBulk d + uptoBulkAll r
def uptoBulkEntries {H : Type} : List (Lit × DataW H) → Nat
  | [] => 0
  | x :: r => uptoBulkEntry x + uptoBulkEntries r
def uptoBulkEntry {H : Type} : Lit × DataW H → Nat
  | (.string bytes, d) => bytes.length + uptoBulk d + 1
  | (_, d) => uptoBulk d + 1
 end
def uptoSmall : (H : Type) → List (DataW H) → Bool := fun _ ds => decide (uptoBulkAll ds ≤ 1048576)
def OpenSpec.upto (s : _root_.Go.ChangeSpec) : _root_.Go.OpenSpec := { _root_.Go.OpenSpec.ofChange s with cond := some uptoSmall }

/-- 'bikesharelaw42.TruckChecks', WHERE WHAT IT READS IS OF BULK AT MOST 1048576: true; the input reads as it did. -/
def truckChecksUptoRow : OpenClaim := { program := "ytcgicnfjcndedaa", sum := "63a6b101d7aec61ffd48cea1c5e2ebd0cb205b63c0919d044f475a17f1ebc253", func := "bikeshare/bikesharelaw42.TruckChecks", spec := "truckChecks", unfollowed := true, recurses := true, apart := false, narrowed := true }
def TruckChecksUptoSaid : Prop := truckChecksUptoRow.holds Try.pinned (OpenSpec.upto truckChecksSpec)

/-- 'bikesharelaw42.TruckWalks', WHERE WHAT IT READS IS OF BULK AT MOST 1048576: true; the input reads as it did. -/
def truckWalksUptoRow : OpenClaim := { program := "ytcgicnfjcndedaa", sum := "63a6b101d7aec61ffd48cea1c5e2ebd0cb205b63c0919d044f475a17f1ebc253", func := "bikeshare/bikesharelaw42.TruckWalks", spec := "truckWalks", unfollowed := true, recurses := true, apart := false, narrowed := true }
def TruckWalksUptoSaid : Prop := truckWalksUptoRow.holds Try.pinned (OpenSpec.upto truckWalksSpec)

/-- 'bikesharelaw42.TruckFeasible', WHERE WHAT IT READS IS OF BULK AT MOST 1048576: true; the input reads as it did. -/
def truckFeasibleUptoRow : OpenClaim := { program := "ytcgicnfjcndedaa", sum := "63a6b101d7aec61ffd48cea1c5e2ebd0cb205b63c0919d044f475a17f1ebc253", func := "bikeshare/bikesharelaw42.TruckFeasible", spec := "truckFeasible", unfollowed := true, recurses := true, apart := false, narrowed := true }
def TruckFeasibleUptoSaid : Prop := truckFeasibleUptoRow.holds Try.pinned (OpenSpec.upto truckFeasibleSpec)

/-- 'bikesharelaw42.TruckWalk', WHERE WHAT IT READS IS OF BULK AT MOST 1048576: true; the input reads as it did. -/
def truckWalkUptoRow : OpenClaim := { program := "ytcgicnfjcndedaa", sum := "63a6b101d7aec61ffd48cea1c5e2ebd0cb205b63c0919d044f475a17f1ebc253", func := "bikeshare/bikesharelaw42.TruckWalk", spec := "truckWalk", unfollowed := true, recurses := true, apart := false, narrowed := true }
def TruckWalkUptoSaid : Prop := truckWalkUptoRow.holds Try.pinned (OpenSpec.upto truckWalkSpec)

/-- 'bikesharelaw42.TruckBegins', WHERE WHAT IT READS IS OF BULK AT MOST 1048576: true; the input reads as it did. -/
def truckBeginsUptoRow : OpenClaim := { program := "ytcgicnfjcndedaa", sum := "63a6b101d7aec61ffd48cea1c5e2ebd0cb205b63c0919d044f475a17f1ebc253", func := "bikeshare/bikesharelaw42.TruckBegins", spec := "truckBegins", unfollowed := true, recurses := true, apart := false, narrowed := true }
def TruckBeginsUptoSaid : Prop := truckBeginsUptoRow.holds Try.pinned (OpenSpec.upto truckBeginsSpec)

/-- 'bikesharelaw42.TruckEases', WHERE WHAT IT READS IS OF BULK AT MOST 1048576: true; the input reads as it did. -/
def truckEasesUptoRow : OpenClaim := { program := "ytcgicnfjcndedaa", sum := "63a6b101d7aec61ffd48cea1c5e2ebd0cb205b63c0919d044f475a17f1ebc253", func := "bikeshare/bikesharelaw42.TruckEases", spec := "truckEases", unfollowed := true, recurses := true, apart := false, narrowed := true }
def TruckEasesUptoSaid : Prop := truckEasesUptoRow.holds Try.pinned (OpenSpec.upto truckEasesSpec)

/-- 'bikesharelaw42.TruckServes', WHERE WHAT IT READS IS OF BULK AT MOST 1048576: true; the input reads as it did. -/
def truckServesUptoRow : OpenClaim := { program := "ytcgicnfjcndedaa", sum := "63a6b101d7aec61ffd48cea1c5e2ebd0cb205b63c0919d044f475a17f1ebc253", func := "bikeshare/bikesharelaw42.TruckServes", spec := "truckServes", unfollowed := true, recurses := true, apart := false, narrowed := true }
def TruckServesUptoSaid : Prop := truckServesUptoRow.holds Try.pinned (OpenSpec.upto truckServesSpec)

end Rows
end Go.Proofs.Ytcgicnfjcndedaa
