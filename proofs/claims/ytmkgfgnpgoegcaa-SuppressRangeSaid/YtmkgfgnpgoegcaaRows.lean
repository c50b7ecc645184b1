/-
  No cell of these rows narrows 'for every input' (looked for: loops, veiled, ifaces, maps, wideKeys, modest, calm, conditions, laid).
  DERIVED. THE GIVEN ROWS OF THIS SEAT. 7 by the template 'for every input the law returns true; each argument reads behind the call as it read before'; 0 by the template 'total and deterministic' (their statements: YtmkgfgnpgoegcaaTotals.lean).
  GIVEN WITH THE SEED: the statements are not yours to turn. If you find one false, say at which input.
  Laid BY PROGRAM, IN A SANDBOX (cutbox-rows.mjs): the forced cells as the released guide's own fill.sh prints them over the translation d234f287d5ed074b… (all of the seat's roots in one cut). By AI agents, Wed Nov 11 2026. No macro, syntax, notation, axiom, sorry.
-/
import Derived.Test.YtmkgfgnpgoegcaaChecked
import GoSem.Claim
import GoSem.ClaimJoined
import GoSem.ClaimMapViews
import Derived.JoinedTies
import Derived.KernelRfl
namespace Go.Proofs.Ytmkgfgnpgoegcaa
/- THE CELL 'sum', in the pinned program and in every row, IS THE sha256 OF THE DUMP (.gsa) THAT YtmkgfgnpgoegcaaProg.lean LOADS. Nothing in Lean hashes anything: it is a label: what it is worth is what the hold of that sum in a sandbox is worth. -/
noncomputable def Try.pinned : Pinned := { name := "ytmkgfgnpgoegcaa", sum := "d234f287d5ed074b9367e478aa98dd71ceb07110feda90b3a29e24cae5bc4084", checked := Try.checked }
namespace Rows
def none {H : Type} : Left H := { results := [], args := [] }

/-- 'bikesharelaw52.SuppressRanges': WHATEVER THE INPUT: true; the input reads as it did. -/
def suppressRangesSpec : ChangeSpec := { name := "suppressRanges", fn := fun _ => fun
  | [d1, d2, d3, d4] => { results := [.lit (.bool true)], args := [d1, d2, d3, d4] }
  | _ => none }
def suppressRangesRow : OpenClaim := { program := "ytmkgfgnpgoegcaa", sum := "d234f287d5ed074b9367e478aa98dd71ceb07110feda90b3a29e24cae5bc4084", func := "bikeshare/bikesharelaw52.SuppressRanges", spec := "suppressRanges", unfollowed := true, recurses := true, apart := false }
def SuppressRangesSaid : Prop := suppressRangesRow.holds Try.pinned (OpenSpec.ofChange suppressRangesSpec)

/-- ITS FALSE NEIGHBOUR: 'it returns false'. Refute it at one input. -/
def suppressRangesWrong : ChangeSpec := { name := "suppressRanges", fn := fun _ => fun
  | [d1, d2, d3, d4] => { results := [.lit (.bool false)], args := [d1, d2, d3, d4] }
  | _ => none }
def SuppressRangesWrongFalsely : Prop := suppressRangesRow.holds Try.pinned (OpenSpec.ofChange suppressRangesWrong)

/-- 'bikesharelaw52.SuppressHides': WHATEVER THE INPUT: true; the input reads as it did. -/
def suppressHidesSpec : ChangeSpec := { name := "suppressHides", fn := fun _ => fun
  | [d1, d2, d3] => { results := [.lit (.bool true)], args := [d1, d2, d3] }
  | _ => none }
def suppressHidesRow : OpenClaim := { program := "ytmkgfgnpgoegcaa", sum := "d234f287d5ed074b9367e478aa98dd71ceb07110feda90b3a29e24cae5bc4084", func := "bikeshare/bikesharelaw52.SuppressHides", spec := "suppressHides", unfollowed := true, recurses := true, apart := false }
def SuppressHidesSaid : Prop := suppressHidesRow.holds Try.pinned (OpenSpec.ofChange suppressHidesSpec)

/-- ITS FALSE NEIGHBOUR: 'it returns false'. Refute it at one input. -/
def suppressHidesWrong : ChangeSpec := { name := "suppressHides", fn := fun _ => fun
  | [d1, d2, d3] => { results := [.lit (.bool false)], args := [d1, d2, d3] }
  | _ => none }
def SuppressHidesWrongFalsely : Prop := suppressHidesRow.holds Try.pinned (OpenSpec.ofChange suppressHidesWrong)

/-- 'bikesharelaw52.SuppressRange': WHATEVER THE INPUT: true; the input reads as it did. -/
def suppressRangeSpec : ChangeSpec := { name := "suppressRange", fn := fun _ => fun
  | [d1, d2, d3] => { results := [.lit (.bool true)], args := [d1, d2, d3] }
  | _ => none }
def suppressRangeRow : OpenClaim := { program := "ytmkgfgnpgoegcaa", sum := "d234f287d5ed074b9367e478aa98dd71ceb07110feda90b3a29e24cae5bc4084", func := "bikeshare/bikesharelaw52.SuppressRange", spec := "suppressRange", unfollowed := true, recurses := true, apart := false }
def SuppressRangeSaid : Prop := suppressRangeRow.holds Try.pinned (OpenSpec.ofChange suppressRangeSpec)

/-- ITS FALSE NEIGHBOUR: 'it returns false'. Refute it at one input. -/
def suppressRangeWrong : ChangeSpec := { name := "suppressRange", fn := fun _ => fun
  | [d1, d2, d3] => { results := [.lit (.bool false)], args := [d1, d2, d3] }
  | _ => none }
def SuppressRangeWrongFalsely : Prop := suppressRangeRow.holds Try.pinned (OpenSpec.ofChange suppressRangeWrong)

/-- 'bikesharelaw52.SuppressAlike': WHATEVER THE INPUT: true; the input reads as it did. -/
def suppressAlikeSpec : ChangeSpec := { name := "suppressAlike", fn := fun _ => fun
  | [d1, d2, d3] => { results := [.lit (.bool true)], args := [d1, d2, d3] }
  | _ => none }
def suppressAlikeRow : OpenClaim := { program := "ytmkgfgnpgoegcaa", sum := "d234f287d5ed074b9367e478aa98dd71ceb07110feda90b3a29e24cae5bc4084", func := "bikeshare/bikesharelaw52.SuppressAlike", spec := "suppressAlike", unfollowed := true, recurses := true, apart := false }
def SuppressAlikeSaid : Prop := suppressAlikeRow.holds Try.pinned (OpenSpec.ofChange suppressAlikeSpec)

/-- ITS FALSE NEIGHBOUR: 'it returns false'. Refute it at one input. -/
def suppressAlikeWrong : ChangeSpec := { name := "suppressAlike", fn := fun _ => fun
  | [d1, d2, d3] => { results := [.lit (.bool false)], args := [d1, d2, d3] }
  | _ => none }
def SuppressAlikeWrongFalsely : Prop := suppressAlikeRow.holds Try.pinned (OpenSpec.ofChange suppressAlikeWrong)

/-- 'bikesharelaw52.SuppressMore': WHATEVER THE INPUT: true; the input reads as it did. -/
def suppressMoreSpec : ChangeSpec := { name := "suppressMore", fn := fun _ => fun
  | [d1, d2, d3] => { results := [.lit (.bool true)], args := [d1, d2, d3] }
  | _ => none }
def suppressMoreRow : OpenClaim := { program := "ytmkgfgnpgoegcaa", sum := "d234f287d5ed074b9367e478aa98dd71ceb07110feda90b3a29e24cae5bc4084", func := "bikeshare/bikesharelaw52.SuppressMore", spec := "suppressMore", unfollowed := true, recurses := true, apart := false }
def SuppressMoreSaid : Prop := suppressMoreRow.holds Try.pinned (OpenSpec.ofChange suppressMoreSpec)

/-- ITS FALSE NEIGHBOUR: 'it returns false'. Refute it at one input. -/
def suppressMoreWrong : ChangeSpec := { name := "suppressMore", fn := fun _ => fun
  | [d1, d2, d3] => { results := [.lit (.bool false)], args := [d1, d2, d3] }
  | _ => none }
def SuppressMoreWrongFalsely : Prop := suppressMoreRow.holds Try.pinned (OpenSpec.ofChange suppressMoreWrong)

/-- 'bikesharelaw52.SuppressProtects': WHATEVER THE INPUT: true; the input reads as it did. -/
def suppressProtectsSpec : ChangeSpec := { name := "suppressProtects", fn := fun _ => fun
  | [d1, d2, d3] => { results := [.lit (.bool true)], args := [d1, d2, d3] }
  | _ => none }
def suppressProtectsRow : OpenClaim := { program := "ytmkgfgnpgoegcaa", sum := "d234f287d5ed074b9367e478aa98dd71ceb07110feda90b3a29e24cae5bc4084", func := "bikeshare/bikesharelaw52.SuppressProtects", spec := "suppressProtects", unfollowed := true, recurses := true, apart := false }
def SuppressProtectsSaid : Prop := suppressProtectsRow.holds Try.pinned (OpenSpec.ofChange suppressProtectsSpec)

/-- ITS FALSE NEIGHBOUR: 'it returns false'. Refute it at one input. -/
def suppressProtectsWrong : ChangeSpec := { name := "suppressProtects", fn := fun _ => fun
  | [d1, d2, d3] => { results := [.lit (.bool false)], args := [d1, d2, d3] }
  | _ => none }
def SuppressProtectsWrongFalsely : Prop := suppressProtectsRow.holds Try.pinned (OpenSpec.ofChange suppressProtectsWrong)

/-- 'bikesharelaw52.SuppressTurns': WHATEVER THE INPUT: true; the input reads as it did. -/
def suppressTurnsSpec : ChangeSpec := { name := "suppressTurns", fn := fun _ => fun
  | [d1, d2] => { results := [.lit (.bool true)], args := [d1, d2] }
  | _ => none }
def suppressTurnsRow : OpenClaim := { program := "ytmkgfgnpgoegcaa", sum := "d234f287d5ed074b9367e478aa98dd71ceb07110feda90b3a29e24cae5bc4084", func := "bikeshare/bikesharelaw52.SuppressTurns", spec := "suppressTurns", unfollowed := true, recurses := true, apart := false }
def SuppressTurnsSaid : Prop := suppressTurnsRow.holds Try.pinned (OpenSpec.ofChange suppressTurnsSpec)

/-- ITS FALSE NEIGHBOUR: 'it returns false'. Refute it at one input. -/
def suppressTurnsWrong : ChangeSpec := { name := "suppressTurns", fn := fun _ => fun
  | [d1, d2] => { results := [.lit (.bool false)], args := [d1, d2] }
  | _ => none }
def SuppressTurnsWrongFalsely : Prop := suppressTurnsRow.holds Try.pinned (OpenSpec.ofChange suppressTurnsWrong)

/- THE SECOND FORM. 'bulk': how many values and letters a reading holds, each counted each time it is reached (what is shared counts as often as it is met; a slice's spare places count too). A statement '..UptoSaid' is the law's where the arguments, and the package variables that the reading takes, are together of bulk at most 1048576: NARROWER than '..Said'. Prove '..Said' where nothing that the law and all that it calls make is longer than what came in: it says more and counts as full. Else prove '..UptoSaid'. A law counts once. -/
mutual
def uptoBulk {H : Type} : DataW H → Nat
  | .lit (.string bytes) => bytes.length + 1
  | .lit _ => 1
  | .nil => 1
  | .ptr d => uptoBulk d + 1
  | .slice elems spare => uptoBulkAll elems + uptoBulkAll spare + 1
  | .agg parts => uptoBulkAll parts + 1
  | .iface _ d => uptoBulk d + 1
  | .map entries => uptoBulkEntries entries + 1
  | .held _ => 1
def uptoBulkAll {H : Type} : List (DataW H) → Nat
  | [] => 0
  | d :: r => uptoBulk d + uptoBulkAll r
def uptoBulkEntries {H : Type} : List (Lit × DataW H) → Nat
  | [] => 0
  | x :: r => uptoBulkEntry x + uptoBulkEntries r
def uptoBulkEntry {H : Type} : Lit × DataW H → Nat
  | (.string bytes, d) => bytes.length + uptoBulk d + 1
  | (_, d) => uptoBulk d + 1
 end
def uptoSmall : (H : Type) → List (DataW H) → Bool := fun _ ds => decide (uptoBulkAll ds ≤ 1048576)
def OpenSpec.upto (s : _root_.Go.ChangeSpec) : _root_.Go.OpenSpec := { _root_.Go.OpenSpec.ofChange s with cond := some uptoSmall }

/-- 'bikesharelaw52.SuppressRanges', WHERE WHAT IT READS IS OF BULK AT MOST 1048576: true; the input reads as it did. -/
def suppressRangesUptoRow : OpenClaim := { program := "ytmkgfgnpgoegcaa", sum := "d234f287d5ed074b9367e478aa98dd71ceb07110feda90b3a29e24cae5bc4084", func := "bikeshare/bikesharelaw52.SuppressRanges", spec := "suppressRanges", unfollowed := true, recurses := true, apart := false, narrowed := true }
def SuppressRangesUptoSaid : Prop := suppressRangesUptoRow.holds Try.pinned (OpenSpec.upto suppressRangesSpec)

/-- 'bikesharelaw52.SuppressHides', WHERE WHAT IT READS IS OF BULK AT MOST 1048576: true; the input reads as it did. -/
def suppressHidesUptoRow : OpenClaim := { program := "ytmkgfgnpgoegcaa", sum := "d234f287d5ed074b9367e478aa98dd71ceb07110feda90b3a29e24cae5bc4084", func := "bikeshare/bikesharelaw52.SuppressHides", spec := "suppressHides", unfollowed := true, recurses := true, apart := false, narrowed := true }
def SuppressHidesUptoSaid : Prop := suppressHidesUptoRow.holds Try.pinned (OpenSpec.upto suppressHidesSpec)

/-- 'bikesharelaw52.SuppressRange', WHERE WHAT IT READS IS OF BULK AT MOST 1048576: true; the input reads as it did. -/
def suppressRangeUptoRow : OpenClaim := { program := "ytmkgfgnpgoegcaa", sum := "d234f287d5ed074b9367e478aa98dd71ceb07110feda90b3a29e24cae5bc4084", func := "bikeshare/bikesharelaw52.SuppressRange", spec := "suppressRange", unfollowed := true, recurses := true, apart := false, narrowed := true }
def SuppressRangeUptoSaid : Prop := suppressRangeUptoRow.holds Try.pinned (OpenSpec.upto suppressRangeSpec)

/-- 'bikesharelaw52.SuppressAlike', WHERE WHAT IT READS IS OF BULK AT MOST 1048576: true; the input reads as it did. -/
def suppressAlikeUptoRow : OpenClaim := { program := "ytmkgfgnpgoegcaa", sum := "d234f287d5ed074b9367e478aa98dd71ceb07110feda90b3a29e24cae5bc4084", func := "bikeshare/bikesharelaw52.SuppressAlike", spec := "suppressAlike", unfollowed := true, recurses := true, apart := false, narrowed := true }
def SuppressAlikeUptoSaid : Prop := suppressAlikeUptoRow.holds Try.pinned (OpenSpec.upto suppressAlikeSpec)

/-- 'bikesharelaw52.SuppressMore', WHERE WHAT IT READS IS OF BULK AT MOST 1048576: true; the input reads as it did. -/
def suppressMoreUptoRow : OpenClaim := { program := "ytmkgfgnpgoegcaa", sum := "d234f287d5ed074b9367e478aa98dd71ceb07110feda90b3a29e24cae5bc4084", func := "bikeshare/bikesharelaw52.SuppressMore", spec := "suppressMore", unfollowed := true, recurses := true, apart := false, narrowed := true }
def SuppressMoreUptoSaid : Prop := suppressMoreUptoRow.holds Try.pinned (OpenSpec.upto suppressMoreSpec)

/-- 'bikesharelaw52.SuppressProtects', WHERE WHAT IT READS IS OF BULK AT MOST 1048576: true; the input reads as it did. -/
def suppressProtectsUptoRow : OpenClaim := { program := "ytmkgfgnpgoegcaa", sum := "d234f287d5ed074b9367e478aa98dd71ceb07110feda90b3a29e24cae5bc4084", func := "bikeshare/bikesharelaw52.SuppressProtects", spec := "suppressProtects", unfollowed := true, recurses := true, apart := false, narrowed := true }
def SuppressProtectsUptoSaid : Prop := suppressProtectsUptoRow.holds Try.pinned (OpenSpec.upto suppressProtectsSpec)

/-- 'bikesharelaw52.SuppressTurns', WHERE WHAT IT READS IS OF BULK AT MOST 1048576: true; the input reads as it did. -/
def suppressTurnsUptoRow : OpenClaim := { program := "ytmkgfgnpgoegcaa", sum := "d234f287d5ed074b9367e478aa98dd71ceb07110feda90b3a29e24cae5bc4084", func := "bikeshare/bikesharelaw52.SuppressTurns", spec := "suppressTurns", unfollowed := true, recurses := true, apart := false, narrowed := true }
def SuppressTurnsUptoSaid : Prop := suppressTurnsUptoRow.holds Try.pinned (OpenSpec.upto suppressTurnsSpec)

end Rows
end Go.Proofs.Ytmkgfgnpgoegcaa
