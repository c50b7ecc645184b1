/-
  No cell of these rows narrows 'for every input' (looked for: loops, veiled, ifaces, maps, wideKeys, modest, calm, conditions, laid).
  DERIVED. THE GIVEN ROWS OF THIS SEAT. 6 by the template 'for every input the law returns true; each argument reads behind the call as it read before'; 0 by the template 'total and deterministic' (their statements: YtkfklebaeifdnaaTotals.lean).
  GIVEN WITH THE SEED: the statements are not yours to turn. If you find one false, say at which input.
  Laid BY PROGRAM, IN A SANDBOX (cutbox-rows.mjs): the forced cells as the released guide's own fill.sh prints them over the translation 3fe6a69db40f0433… (all of the seat's roots in one cut). By AI agents, Wed Nov 11 2026. No macro, syntax, notation, axiom, sorry.
-/
import Derived.Test.YtkfklebaeifdnaaChecked
import GoSem.Claim
import GoSem.ClaimJoined
import GoSem.ClaimMapViews
import Derived.JoinedTies
import Derived.KernelRfl
namespace Go.Proofs.Ytkfklebaeifdnaa
/- THE CELL 'sum', in the pinned program and in every row, IS THE sha256 OF THE DUMP (.gsa) THAT YtkfklebaeifdnaaProg.lean LOADS. Nothing in Lean hashes anything: it is a label: what it is worth is what the hold of that sum in a sandbox is worth. -/
noncomputable def Try.pinned : Pinned := { name := "ytkfklebaeifdnaa", sum := "3fe6a69db40f04335daec4939896bdb6d9299820b45cde4f409946e74c79b82a", checked := Try.checked }
namespace Rows
def none {H : Type} : Left H := { results := [], args := [] }

/-- 'bikesharelaw30.FenceChecks': WHATEVER THE INPUT: true; the input reads as it did. -/
def fenceChecksSpec : ChangeSpec := { name := "fenceChecks", fn := fun _ => fun
  | [d1, d2, d3] => { results := [.lit (.bool true)], args := [d1, d2, d3] }
  | _ => none }
def fenceChecksRow : OpenClaim := { program := "ytkfklebaeifdnaa", sum := "3fe6a69db40f04335daec4939896bdb6d9299820b45cde4f409946e74c79b82a", func := "bikeshare/bikesharelaw30.FenceChecks", spec := "fenceChecks", unfollowed := true, recurses := true, apart := false }
def FenceChecksSaid : Prop := fenceChecksRow.holds Try.pinned (OpenSpec.ofChange fenceChecksSpec)

/-- ITS FALSE NEIGHBOUR: 'it returns false'. Refute it at one input. -/
def fenceChecksWrong : ChangeSpec := { name := "fenceChecks", fn := fun _ => fun
  | [d1, d2, d3] => { results := [.lit (.bool false)], args := [d1, d2, d3] }
  | _ => none }
def FenceChecksWrongFalsely : Prop := fenceChecksRow.holds Try.pinned (OpenSpec.ofChange fenceChecksWrong)

/-- 'bikesharelaw30.FenceFinds': WHATEVER THE INPUT: true; the input reads as it did. -/
def fenceFindsSpec : ChangeSpec := { name := "fenceFinds", fn := fun _ => fun
  | [d1, d2] => { results := [.lit (.bool true)], args := [d1, d2] }
  | _ => none }
def fenceFindsRow : OpenClaim := { program := "ytkfklebaeifdnaa", sum := "3fe6a69db40f04335daec4939896bdb6d9299820b45cde4f409946e74c79b82a", func := "bikeshare/bikesharelaw30.FenceFinds", spec := "fenceFinds", unfollowed := true, recurses := true, apart := false }
def FenceFindsSaid : Prop := fenceFindsRow.holds Try.pinned (OpenSpec.ofChange fenceFindsSpec)

/-- ITS FALSE NEIGHBOUR: 'it returns false'. Refute it at one input. -/
def fenceFindsWrong : ChangeSpec := { name := "fenceFinds", fn := fun _ => fun
  | [d1, d2] => { results := [.lit (.bool false)], args := [d1, d2] }
  | _ => none }
def FenceFindsWrongFalsely : Prop := fenceFindsRow.holds Try.pinned (OpenSpec.ofChange fenceFindsWrong)

/-- 'bikesharelaw30.FenceChanges': WHATEVER THE INPUT: true; the input reads as it did. -/
def fenceChangesSpec : ChangeSpec := { name := "fenceChanges", fn := fun _ => fun
  | [d1, d2] => { results := [.lit (.bool true)], args := [d1, d2] }
  | _ => none }
def fenceChangesRow : OpenClaim := { program := "ytkfklebaeifdnaa", sum := "3fe6a69db40f04335daec4939896bdb6d9299820b45cde4f409946e74c79b82a", func := "bikeshare/bikesharelaw30.FenceChanges", spec := "fenceChanges", unfollowed := true, recurses := true, apart := false }
def FenceChangesSaid : Prop := fenceChangesRow.holds Try.pinned (OpenSpec.ofChange fenceChangesSpec)

/-- ITS FALSE NEIGHBOUR: 'it returns false'. Refute it at one input. -/
def fenceChangesWrong : ChangeSpec := { name := "fenceChanges", fn := fun _ => fun
  | [d1, d2] => { results := [.lit (.bool false)], args := [d1, d2] }
  | _ => none }
def FenceChangesWrongFalsely : Prop := fenceChangesRow.holds Try.pinned (OpenSpec.ofChange fenceChangesWrong)

/-- 'bikesharelaw30.FenceSure': WHATEVER THE INPUT: true; the input reads as it did. -/
def fenceSureSpec : ChangeSpec := { name := "fenceSure", fn := fun _ => fun
  | [d1, d2, d3] => { results := [.lit (.bool true)], args := [d1, d2, d3] }
  | _ => none }
def fenceSureRow : OpenClaim := { program := "ytkfklebaeifdnaa", sum := "3fe6a69db40f04335daec4939896bdb6d9299820b45cde4f409946e74c79b82a", func := "bikeshare/bikesharelaw30.FenceSure", spec := "fenceSure", unfollowed := true, recurses := true, apart := false }
def FenceSureSaid : Prop := fenceSureRow.holds Try.pinned (OpenSpec.ofChange fenceSureSpec)

/-- ITS FALSE NEIGHBOUR: 'it returns false'. Refute it at one input. -/
def fenceSureWrong : ChangeSpec := { name := "fenceSure", fn := fun _ => fun
  | [d1, d2, d3] => { results := [.lit (.bool false)], args := [d1, d2, d3] }
  | _ => none }
def FenceSureWrongFalsely : Prop := fenceSureRow.holds Try.pinned (OpenSpec.ofChange fenceSureWrong)

/-- 'bikesharelaw30.FencePoints': WHATEVER THE INPUT: true; the input reads as it did. -/
def fencePointsSpec : ChangeSpec := { name := "fencePoints", fn := fun _ => fun
  | [d1, d2, d3] => { results := [.lit (.bool true)], args := [d1, d2, d3] }
  | _ => none }
def fencePointsRow : OpenClaim := { program := "ytkfklebaeifdnaa", sum := "3fe6a69db40f04335daec4939896bdb6d9299820b45cde4f409946e74c79b82a", func := "bikeshare/bikesharelaw30.FencePoints", spec := "fencePoints", unfollowed := true, recurses := true, apart := false }
def FencePointsSaid : Prop := fencePointsRow.holds Try.pinned (OpenSpec.ofChange fencePointsSpec)

/-- ITS FALSE NEIGHBOUR: 'it returns false'. Refute it at one input. -/
def fencePointsWrong : ChangeSpec := { name := "fencePoints", fn := fun _ => fun
  | [d1, d2, d3] => { results := [.lit (.bool false)], args := [d1, d2, d3] }
  | _ => none }
def FencePointsWrongFalsely : Prop := fencePointsRow.holds Try.pinned (OpenSpec.ofChange fencePointsWrong)

/-- 'bikesharelaw30.FenceDays': WHATEVER THE INPUT: true; the input reads as it did. -/
def fenceDaysSpec : ChangeSpec := { name := "fenceDays", fn := fun _ => fun
  | [d1, d2, d3] => { results := [.lit (.bool true)], args := [d1, d2, d3] }
  | _ => none }
def fenceDaysRow : OpenClaim := { program := "ytkfklebaeifdnaa", sum := "3fe6a69db40f04335daec4939896bdb6d9299820b45cde4f409946e74c79b82a", func := "bikeshare/bikesharelaw30.FenceDays", spec := "fenceDays", unfollowed := true, recurses := true, apart := false }
def FenceDaysSaid : Prop := fenceDaysRow.holds Try.pinned (OpenSpec.ofChange fenceDaysSpec)

/-- ITS FALSE NEIGHBOUR: 'it returns false'. Refute it at one input. -/
def fenceDaysWrong : ChangeSpec := { name := "fenceDays", fn := fun _ => fun
  | [d1, d2, d3] => { results := [.lit (.bool false)], args := [d1, d2, d3] }
  | _ => none }
def FenceDaysWrongFalsely : Prop := fenceDaysRow.holds Try.pinned (OpenSpec.ofChange fenceDaysWrong)

/- THE SECOND FORM. 'bulk': how many values and letters a reading holds, each counted each time it is reached (what is shared counts as often as it is met; a slice's spare places count too). A statement '..UptoSaid' is the law's where the arguments, and the package variables that the reading takes, are together of bulk at most 1048576: NARROWER than '..Said'. Prove '..Said' where nothing that the law and all that it calls make is longer than what came in: it says more and counts as full. Else prove '..UptoSaid'. A law counts once. -/
mutual
def uptoBulk {H : Type} : DataW H → Nat
  | .lit (.string bytes) => bytes.length + 1
  | .lit _ => 1
  | .nil => 1
  | .ptr d => uptoBulk d + 1
  | .slice elems spare => uptoBulkAll elems + uptoBulkAll spare + 1
  | .agg parts => uptoBulkAll parts + 1
  | .iface _ d => uptoBulk d + 1
  | .map entries => uptoBulkEntries entries + 1
  | .held _ => 1
def uptoBulkAll {H : Type} : List (DataW H) → Nat
  | [] => 0
  | d :: r => uptoBulk d + uptoBulkAll r
def uptoBulkEntries {H : Type} : List (Lit × DataW H) → Nat
  | [] => 0
  | x :: r => uptoBulkEntry x + uptoBulkEntries r
def uptoBulkEntry {H : Type} : Lit × DataW H → Nat
  | (.string bytes, d) => bytes.length + uptoBulk d + 1
  | (_, d) => uptoBulk d + 1
 end
def uptoSmall : (H : Type) → List (DataW H) → Bool := fun _ ds => decide (uptoBulkAll ds ≤ 1048576)
def OpenSpec.upto (s : _root_.Go.ChangeSpec) : _root_.Go.OpenSpec := { _root_.Go.OpenSpec.ofChange s with cond := some uptoSmall }

/-- 'bikesharelaw30.FenceChecks', WHERE WHAT IT READS IS OF BULK AT MOST 1048576: true; the input reads as it did. -/
def fenceChecksUptoRow : OpenClaim := { program := "ytkfklebaeifdnaa", sum := "3fe6a69db40f04335daec4939896bdb6d9299820b45cde4f409946e74c79b82a", func := "bikeshare/bikesharelaw30.FenceChecks", spec := "fenceChecks", unfollowed := true, recurses := true, apart := false, narrowed := true }
def FenceChecksUptoSaid : Prop := fenceChecksUptoRow.holds Try.pinned (OpenSpec.upto fenceChecksSpec)

/-- 'bikesharelaw30.FenceFinds', WHERE WHAT IT READS IS OF BULK AT MOST 1048576: true; the input reads as it did. -/
def fenceFindsUptoRow : OpenClaim := { program := "ytkfklebaeifdnaa", sum := "3fe6a69db40f04335daec4939896bdb6d9299820b45cde4f409946e74c79b82a", func := "bikeshare/bikesharelaw30.FenceFinds", spec := "fenceFinds", unfollowed := true, recurses := true, apart := false, narrowed := true }
def FenceFindsUptoSaid : Prop := fenceFindsUptoRow.holds Try.pinned (OpenSpec.upto fenceFindsSpec)

/-- 'bikesharelaw30.FenceChanges', WHERE WHAT IT READS IS OF BULK AT MOST 1048576: true; the input reads as it did. -/
def fenceChangesUptoRow : OpenClaim := { program := "ytkfklebaeifdnaa", sum := "3fe6a69db40f04335daec4939896bdb6d9299820b45cde4f409946e74c79b82a", func := "bikeshare/bikesharelaw30.FenceChanges", spec := "fenceChanges", unfollowed := true, recurses := true, apart := false, narrowed := true }
def FenceChangesUptoSaid : Prop := fenceChangesUptoRow.holds Try.pinned (OpenSpec.upto fenceChangesSpec)

/-- 'bikesharelaw30.FenceSure', WHERE WHAT IT READS IS OF BULK AT MOST 1048576: true; the input reads as it did. -/
def fenceSureUptoRow : OpenClaim := { program := "ytkfklebaeifdnaa", sum := "3fe6a69db40f04335daec4939896bdb6d9299820b45cde4f409946e74c79b82a", func := "bikeshare/bikesharelaw30.FenceSure", spec := "fenceSure", unfollowed := true, recurses := true, apart := false, narrowed := true }
def FenceSureUptoSaid : Prop := fenceSureUptoRow.holds Try.pinned (OpenSpec.upto fenceSureSpec)

/-- 'bikesharelaw30.FencePoints', WHERE WHAT IT READS IS OF BULK AT MOST 1048576: true; the input reads as it did. -/
def fencePointsUptoRow : OpenClaim := { program := "ytkfklebaeifdnaa", sum := "3fe6a69db40f04335daec4939896bdb6d9299820b45cde4f409946e74c79b82a", func := "bikeshare/bikesharelaw30.FencePoints", spec := "fencePoints", unfollowed := true, recurses := true, apart := false, narrowed := true }
def FencePointsUptoSaid : Prop := fencePointsUptoRow.holds Try.pinned (OpenSpec.upto fencePointsSpec)

/-- 'bikesharelaw30.FenceDays', WHERE WHAT IT READS IS OF BULK AT MOST 1048576: true; the input reads as it did. -/
def fenceDaysUptoRow : OpenClaim := { program := "ytkfklebaeifdnaa", sum := "3fe6a69db40f04335daec4939896bdb6d9299820b45cde4f409946e74c79b82a", func := "bikeshare/bikesharelaw30.FenceDays", spec := "fenceDays", unfollowed := true, recurses := true, apart := false, narrowed := true }
def FenceDaysUptoSaid : Prop := fenceDaysUptoRow.holds Try.pinned (OpenSpec.upto fenceDaysSpec)

end Rows
end Go.Proofs.Ytkfklebaeifdnaa
