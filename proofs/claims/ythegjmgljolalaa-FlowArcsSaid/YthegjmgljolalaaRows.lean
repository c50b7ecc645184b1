/-
  No cell of these rows narrows 'for every input' (looked for: loops, veiled, ifaces, maps, wideKeys, modest, calm, conditions, laid).
  DERIVED. THE GIVEN ROWS OF THIS SEAT. 8 by the template 'for every input the law returns true; each argument reads behind the call as it read before'; 0 by the template 'total and deterministic' (their statements: YthegjmgljolalaaTotals.lean).
  GIVEN WITH THE SEED: the statements are not yours to turn. If you find one false, say at which input.
  Laid BY PROGRAM, IN A SANDBOX (cutbox-rows.mjs): the forced cells as the released guide's own fill.sh prints them over the translation 848012c0f8a485a6… (all of the seat's roots in one cut). By AI agents, Wed Nov 11 2026. No macro, syntax, notation, axiom, sorry.
-/
import Derived.Test.YthegjmgljolalaaChecked
import GoSem.Claim
import GoSem.ClaimJoined
import GoSem.ClaimMapViews
import Derived.JoinedTies
import Derived.KernelRfl
namespace Go.Proofs.Ythegjmgljolalaa
/- THE CELL 'sum', in the pinned program and in every row, IS THE sha256 OF THE DUMP (.gsa) THAT YthegjmgljolalaaProg.lean LOADS. Nothing in Lean hashes anything: it is a label: what it is worth is what the hold of that sum in a sandbox is worth. -/
noncomputable def Try.pinned : Pinned := { name := "ythegjmgljolalaa", sum := "848012c0f8a485a60782353756cac33c1b564527b164ffb6e693376da6802256", checked := Try.checked }
namespace Rows
def none {H : Type} : Left H := { results := [], args := [] }

/-- 'bikesharelaw09.FlowChecks': WHATEVER THE INPUT: true; the input reads as it did. -/
def flowChecksSpec : ChangeSpec := { name := "flowChecks", fn := fun _ => fun
  | [d] => { results := [.lit (.bool true)], args := [d] }
  | _ => none }
def flowChecksRow : OpenClaim := { program := "ythegjmgljolalaa", sum := "848012c0f8a485a60782353756cac33c1b564527b164ffb6e693376da6802256", func := "bikeshare/bikesharelaw09.FlowChecks", spec := "flowChecks", unfollowed := true, recurses := true, apart := false }
def FlowChecksSaid : Prop := flowChecksRow.holds Try.pinned (OpenSpec.ofChange flowChecksSpec)

/-- ITS FALSE NEIGHBOUR: 'it returns false'. Refute it at one input. -/
def flowChecksWrong : ChangeSpec := { name := "flowChecks", fn := fun _ => fun
  | [d] => { results := [.lit (.bool false)], args := [d] }
  | _ => none }
def FlowChecksWrongFalsely : Prop := flowChecksRow.holds Try.pinned (OpenSpec.ofChange flowChecksWrong)

/-- 'bikesharelaw09.FlowMost': WHATEVER THE INPUT: true; the input reads as it did. -/
def flowMostSpec : ChangeSpec := { name := "flowMost", fn := fun _ => fun
  | [d1, d2, d3] => { results := [.lit (.bool true)], args := [d1, d2, d3] }
  | _ => none }
def flowMostRow : OpenClaim := { program := "ythegjmgljolalaa", sum := "848012c0f8a485a60782353756cac33c1b564527b164ffb6e693376da6802256", func := "bikeshare/bikesharelaw09.FlowMost", spec := "flowMost", unfollowed := true, recurses := true, apart := false }
def FlowMostSaid : Prop := flowMostRow.holds Try.pinned (OpenSpec.ofChange flowMostSpec)

/-- ITS FALSE NEIGHBOUR: 'it returns false'. Refute it at one input. -/
def flowMostWrong : ChangeSpec := { name := "flowMost", fn := fun _ => fun
  | [d1, d2, d3] => { results := [.lit (.bool false)], args := [d1, d2, d3] }
  | _ => none }
def FlowMostWrongFalsely : Prop := flowMostRow.holds Try.pinned (OpenSpec.ofChange flowMostWrong)

/-- 'bikesharelaw09.FlowCosts': WHATEVER THE INPUT: true; the input reads as it did. -/
def flowCostsSpec : ChangeSpec := { name := "flowCosts", fn := fun _ => fun
  | [d1, d2, d3, d4] => { results := [.lit (.bool true)], args := [d1, d2, d3, d4] }
  | _ => none }
def flowCostsRow : OpenClaim := { program := "ythegjmgljolalaa", sum := "848012c0f8a485a60782353756cac33c1b564527b164ffb6e693376da6802256", func := "bikeshare/bikesharelaw09.FlowCosts", spec := "flowCosts", unfollowed := true, recurses := true, apart := false }
def FlowCostsSaid : Prop := flowCostsRow.holds Try.pinned (OpenSpec.ofChange flowCostsSpec)

/-- ITS FALSE NEIGHBOUR: 'it returns false'. Refute it at one input. -/
def flowCostsWrong : ChangeSpec := { name := "flowCosts", fn := fun _ => fun
  | [d1, d2, d3, d4] => { results := [.lit (.bool false)], args := [d1, d2, d3, d4] }
  | _ => none }
def FlowCostsWrongFalsely : Prop := flowCostsRow.holds Try.pinned (OpenSpec.ofChange flowCostsWrong)

/-- 'bikesharelaw09.FlowProofs': WHATEVER THE INPUT: true; the input reads as it did. -/
def flowProofsSpec : ChangeSpec := { name := "flowProofs", fn := fun _ => fun
  | [d1, d2, d3, d4] => { results := [.lit (.bool true)], args := [d1, d2, d3, d4] }
  | _ => none }
def flowProofsRow : OpenClaim := { program := "ythegjmgljolalaa", sum := "848012c0f8a485a60782353756cac33c1b564527b164ffb6e693376da6802256", func := "bikeshare/bikesharelaw09.FlowProofs", spec := "flowProofs", unfollowed := true, recurses := true, apart := false }
def FlowProofsSaid : Prop := flowProofsRow.holds Try.pinned (OpenSpec.ofChange flowProofsSpec)

/-- ITS FALSE NEIGHBOUR: 'it returns false'. Refute it at one input. -/
def flowProofsWrong : ChangeSpec := { name := "flowProofs", fn := fun _ => fun
  | [d1, d2, d3, d4] => { results := [.lit (.bool false)], args := [d1, d2, d3, d4] }
  | _ => none }
def FlowProofsWrongFalsely : Prop := flowProofsRow.holds Try.pinned (OpenSpec.ofChange flowProofsWrong)

/-- 'bikesharelaw09.FlowOptimal': WHATEVER THE INPUT: true; the input reads as it did. -/
def flowOptimalSpec : ChangeSpec := { name := "flowOptimal", fn := fun _ => fun
  | [d1, d2, d3, d4] => { results := [.lit (.bool true)], args := [d1, d2, d3, d4] }
  | _ => none }
def flowOptimalRow : OpenClaim := { program := "ythegjmgljolalaa", sum := "848012c0f8a485a60782353756cac33c1b564527b164ffb6e693376da6802256", func := "bikeshare/bikesharelaw09.FlowOptimal", spec := "flowOptimal", unfollowed := true, recurses := true, apart := false }
def FlowOptimalSaid : Prop := flowOptimalRow.holds Try.pinned (OpenSpec.ofChange flowOptimalSpec)

/-- ITS FALSE NEIGHBOUR: 'it returns false'. Refute it at one input. -/
def flowOptimalWrong : ChangeSpec := { name := "flowOptimal", fn := fun _ => fun
  | [d1, d2, d3, d4] => { results := [.lit (.bool false)], args := [d1, d2, d3, d4] }
  | _ => none }
def FlowOptimalWrongFalsely : Prop := flowOptimalRow.holds Try.pinned (OpenSpec.ofChange flowOptimalWrong)

/-- 'bikesharelaw09.FlowBetter': WHATEVER THE INPUT: true; the input reads as it did. -/
def flowBetterSpec : ChangeSpec := { name := "flowBetter", fn := fun _ => fun
  | [d1, d2, d3, d4] => { results := [.lit (.bool true)], args := [d1, d2, d3, d4] }
  | _ => none }
def flowBetterRow : OpenClaim := { program := "ythegjmgljolalaa", sum := "848012c0f8a485a60782353756cac33c1b564527b164ffb6e693376da6802256", func := "bikeshare/bikesharelaw09.FlowBetter", spec := "flowBetter", unfollowed := true, recurses := true, apart := false }
def FlowBetterSaid : Prop := flowBetterRow.holds Try.pinned (OpenSpec.ofChange flowBetterSpec)

/-- ITS FALSE NEIGHBOUR: 'it returns false'. Refute it at one input. -/
def flowBetterWrong : ChangeSpec := { name := "flowBetter", fn := fun _ => fun
  | [d1, d2, d3, d4] => { results := [.lit (.bool false)], args := [d1, d2, d3, d4] }
  | _ => none }
def FlowBetterWrongFalsely : Prop := flowBetterRow.holds Try.pinned (OpenSpec.ofChange flowBetterWrong)

/-- 'bikesharelaw09.FlowGrows': WHATEVER THE INPUT: true; the input reads as it did. -/
def flowGrowsSpec : ChangeSpec := { name := "flowGrows", fn := fun _ => fun
  | [d1, d2, d3, d4] => { results := [.lit (.bool true)], args := [d1, d2, d3, d4] }
  | _ => none }
def flowGrowsRow : OpenClaim := { program := "ythegjmgljolalaa", sum := "848012c0f8a485a60782353756cac33c1b564527b164ffb6e693376da6802256", func := "bikeshare/bikesharelaw09.FlowGrows", spec := "flowGrows", unfollowed := true, recurses := true, apart := false }
def FlowGrowsSaid : Prop := flowGrowsRow.holds Try.pinned (OpenSpec.ofChange flowGrowsSpec)

/-- ITS FALSE NEIGHBOUR: 'it returns false'. Refute it at one input. -/
def flowGrowsWrong : ChangeSpec := { name := "flowGrows", fn := fun _ => fun
  | [d1, d2, d3, d4] => { results := [.lit (.bool false)], args := [d1, d2, d3, d4] }
  | _ => none }
def FlowGrowsWrongFalsely : Prop := flowGrowsRow.holds Try.pinned (OpenSpec.ofChange flowGrowsWrong)

/-- 'bikesharelaw09.FlowArcs': WHATEVER THE INPUT: true; the input reads as it did. -/
def flowArcsSpec : ChangeSpec := { name := "flowArcs", fn := fun _ => fun
  | [d1, d2, d3, d4, d5] => { results := [.lit (.bool true)], args := [d1, d2, d3, d4, d5] }
  | _ => none }
def flowArcsRow : OpenClaim := { program := "ythegjmgljolalaa", sum := "848012c0f8a485a60782353756cac33c1b564527b164ffb6e693376da6802256", func := "bikeshare/bikesharelaw09.FlowArcs", spec := "flowArcs", unfollowed := true, recurses := true, apart := false }
def FlowArcsSaid : Prop := flowArcsRow.holds Try.pinned (OpenSpec.ofChange flowArcsSpec)

/-- ITS FALSE NEIGHBOUR: 'it returns false'. Refute it at one input. -/
def flowArcsWrong : ChangeSpec := { name := "flowArcs", fn := fun _ => fun
  | [d1, d2, d3, d4, d5] => { results := [.lit (.bool false)], args := [d1, d2, d3, d4, d5] }
  | _ => none }
def FlowArcsWrongFalsely : Prop := flowArcsRow.holds Try.pinned (OpenSpec.ofChange flowArcsWrong)

/- THE SECOND FORM. 'bulk': how many values and letters a reading holds, each counted each time it is reached (what is shared counts as often as it is met; a slice's spare places count too). A statement '..UptoSaid' is the law's where the arguments, and the package variables that the reading takes, are together of bulk at most 1048576: NARROWER than '..Said'. Prove '..Said' where nothing that the law and all that it calls make is longer than what came in: it says more and counts as full. Else prove '..UptoSaid'. A law counts once. -/
mutual
def uptoBulk {H : Type} : DataW H → Nat
  | .lit (.string bytes) => bytes.length + 1
  | .lit _ => 1
  | .nil => 1
  | .ptr d => uptoBulk d + 1
  | .slice elems spare => uptoBulkAll elems + uptoBulkAll spare + 1
  | .agg parts => uptoBulkAll parts + 1
  | .iface _ d => uptoBulk d + 1
  | .map entries => uptoBulkEntries entries + 1
  | .held _ => 1
def uptoBulkAll {H : Type} : List (DataW H) → Nat
  | [] => 0
  | d :: r => uptoBulk d + uptoBulkAll r
def uptoBulkEntries {H : Type} : List (Lit × DataW H) → Nat
  | [] => 0
  | x :: r => uptoBulkEntry x + uptoBulkEntries r
def uptoBulkEntry {H : Type} : Lit × DataW H → Nat
  | (.string bytes, d) => bytes.length + uptoBulk d + 1
  | (_, d) => uptoBulk d + 1
 end
def uptoSmall : (H : Type) → List (DataW H) → Bool := fun _ ds => decide (uptoBulkAll ds ≤ 1048576)
def OpenSpec.upto (s : _root_.Go.ChangeSpec) : _root_.Go.OpenSpec := { _root_.Go.OpenSpec.ofChange s with cond := some uptoSmall }

/-- 'bikesharelaw09.FlowChecks', WHERE WHAT IT READS IS OF BULK AT MOST 1048576: true; the input reads as it did. -/
def flowChecksUptoRow : OpenClaim := { program := "ythegjmgljolalaa", sum := "848012c0f8a485a60782353756cac33c1b564527b164ffb6e693376da6802256", func := "bikeshare/bikesharelaw09.FlowChecks", spec := "flowChecks", unfollowed := true, recurses := true, apart := false, narrowed := true }
def FlowChecksUptoSaid : Prop := flowChecksUptoRow.holds Try.pinned (OpenSpec.upto flowChecksSpec)

/-- 'bikesharelaw09.FlowMost', WHERE WHAT IT READS IS OF BULK AT MOST 1048576: true; the input reads as it did. -/
def flowMostUptoRow : OpenClaim := { program := "ythegjmgljolalaa", sum := "848012c0f8a485a60782353756cac33c1b564527b164ffb6e693376da6802256", func := "bikeshare/bikesharelaw09.FlowMost", spec := "flowMost", unfollowed := true, recurses := true, apart := false, narrowed := true }
def FlowMostUptoSaid : Prop := flowMostUptoRow.holds Try.pinned (OpenSpec.upto flowMostSpec)

/-- 'bikesharelaw09.FlowCosts', WHERE WHAT IT READS IS OF BULK AT MOST 1048576: true; the input reads as it did. -/
def flowCostsUptoRow : OpenClaim := { program := "ythegjmgljolalaa", sum := "848012c0f8a485a60782353756cac33c1b564527b164ffb6e693376da6802256", func := "bikeshare/bikesharelaw09.FlowCosts", spec := "flowCosts", unfollowed := true, recurses := true, apart := false, narrowed := true }
def FlowCostsUptoSaid : Prop := flowCostsUptoRow.holds Try.pinned (OpenSpec.upto flowCostsSpec)

/-- 'bikesharelaw09.FlowProofs', WHERE WHAT IT READS IS OF BULK AT MOST 1048576: true; the input reads as it did. -/
def flowProofsUptoRow : OpenClaim := { program := "ythegjmgljolalaa", sum := "848012c0f8a485a60782353756cac33c1b564527b164ffb6e693376da6802256", func := "bikeshare/bikesharelaw09.FlowProofs", spec := "flowProofs", unfollowed := true, recurses := true, apart := false, narrowed := true }
def FlowProofsUptoSaid : Prop := flowProofsUptoRow.holds Try.pinned (OpenSpec.upto flowProofsSpec)

/-- 'bikesharelaw09.FlowOptimal', WHERE WHAT IT READS IS OF BULK AT MOST 1048576: true; the input reads as it did. -/
def flowOptimalUptoRow : OpenClaim := { program := "ythegjmgljolalaa", sum := "848012c0f8a485a60782353756cac33c1b564527b164ffb6e693376da6802256", func := "bikeshare/bikesharelaw09.FlowOptimal", spec := "flowOptimal", unfollowed := true, recurses := true, apart := false, narrowed := true }
def FlowOptimalUptoSaid : Prop := flowOptimalUptoRow.holds Try.pinned (OpenSpec.upto flowOptimalSpec)

/-- 'bikesharelaw09.FlowBetter', WHERE WHAT IT READS IS OF BULK AT MOST 1048576: true; the input reads as it did. -/
def flowBetterUptoRow : OpenClaim := { program := "ythegjmgljolalaa", sum := "848012c0f8a485a60782353756cac33c1b564527b164ffb6e693376da6802256", func := "bikeshare/bikesharelaw09.FlowBetter", spec := "flowBetter", unfollowed := true, recurses := true, apart := false, narrowed := true }
def FlowBetterUptoSaid : Prop := flowBetterUptoRow.holds Try.pinned (OpenSpec.upto flowBetterSpec)

/-- 'bikesharelaw09.FlowGrows', WHERE WHAT IT READS IS OF BULK AT MOST 1048576: true; the input reads as it did. -/
def flowGrowsUptoRow : OpenClaim := { program := "ythegjmgljolalaa", sum := "848012c0f8a485a60782353756cac33c1b564527b164ffb6e693376da6802256", func := "bikeshare/bikesharelaw09.FlowGrows", spec := "flowGrows", unfollowed := true, recurses := true, apart := false, narrowed := true }
def FlowGrowsUptoSaid : Prop := flowGrowsUptoRow.holds Try.pinned (OpenSpec.upto flowGrowsSpec)

/-- 'bikesharelaw09.FlowArcs', WHERE WHAT IT READS IS OF BULK AT MOST 1048576: true; the input reads as it did. -/
def flowArcsUptoRow : OpenClaim := { program := "ythegjmgljolalaa", sum := "848012c0f8a485a60782353756cac33c1b564527b164ffb6e693376da6802256", func := "bikeshare/bikesharelaw09.FlowArcs", spec := "flowArcs", unfollowed := true, recurses := true, apart := false, narrowed := true }
def FlowArcsUptoSaid : Prop := flowArcsUptoRow.holds Try.pinned (OpenSpec.upto flowArcsSpec)

end Rows
end Go.Proofs.Ythegjmgljolalaa
