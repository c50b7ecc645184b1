/-
  No cell of these rows narrows 'for every input' (looked for: loops, veiled, ifaces, maps, wideKeys, modest, calm, conditions, laid).
  DERIVED. THE GIVEN ROWS OF THIS SEAT. 6 by the template 'for every input the law returns true; each argument reads behind the call as it read before'; 0 by the template 'total and deterministic' (their statements: YtgjfjbphngamgaaTotals.lean).
  GIVEN WITH THE SEED: the statements are not yours to turn. If you find one false, say at which input.
  Laid BY PROGRAM, IN A SANDBOX (cutbox-rows.mjs): the forced cells as the released guide's own fill.sh prints them over the translation 380e15d974cc205e… (all of the seat's roots in one cut). By AI agents, Wed Nov 11 2026. No macro, syntax, notation, axiom, sorry.
-/
import Derived.Test.YtgjfjbphngamgaaChecked
import GoSem.Claim
import GoSem.ClaimJoined
import GoSem.ClaimMapViews
import Derived.JoinedTies
import Derived.KernelRfl
namespace Go.Proofs.Ytgjfjbphngamgaa
/- THE CELL 'sum', in the pinned program and in every row, IS THE sha256 OF THE DUMP (.gsa) THAT YtgjfjbphngamgaaProg.lean LOADS. Nothing in Lean hashes anything: it is a label: what it is worth is what the hold of that sum in a sandbox is worth. -/
noncomputable def Try.pinned : Pinned := { name := "ytgjfjbphngamgaa", sum := "380e15d974cc205ea6e8be43aaa33a92ad2ee903364ed4794ba3c916306abddf", checked := Try.checked }
namespace Rows
def none {H : Type} : Left H := { results := [], args := [] }

/-- 'bikesharelaw44.BoundFinds': WHATEVER THE INPUT: true; the input reads as it did. -/
def boundFindsSpec : ChangeSpec := { name := "boundFinds", fn := fun _ => fun
  | [d] => { results := [.lit (.bool true)], args := [d] }
  | _ => none }
def boundFindsRow : OpenClaim := { program := "ytgjfjbphngamgaa", sum := "380e15d974cc205ea6e8be43aaa33a92ad2ee903364ed4794ba3c916306abddf", func := "bikeshare/bikesharelaw44.BoundFinds", spec := "boundFinds", unfollowed := true, recurses := true, apart := false }
def BoundFindsSaid : Prop := boundFindsRow.holds Try.pinned (OpenSpec.ofChange boundFindsSpec)

/-- ITS FALSE NEIGHBOUR: 'it returns false'. Refute it at one input. -/
def boundFindsWrong : ChangeSpec := { name := "boundFinds", fn := fun _ => fun
  | [d] => { results := [.lit (.bool false)], args := [d] }
  | _ => none }
def BoundFindsWrongFalsely : Prop := boundFindsRow.holds Try.pinned (OpenSpec.ofChange boundFindsWrong)

/-- 'bikesharelaw44.BoundProofs': WHATEVER THE INPUT: true; the input reads as it did. -/
def boundProofsSpec : ChangeSpec := { name := "boundProofs", fn := fun _ => fun
  | [d1, d2] => { results := [.lit (.bool true)], args := [d1, d2] }
  | _ => none }
def boundProofsRow : OpenClaim := { program := "ytgjfjbphngamgaa", sum := "380e15d974cc205ea6e8be43aaa33a92ad2ee903364ed4794ba3c916306abddf", func := "bikeshare/bikesharelaw44.BoundProofs", spec := "boundProofs", unfollowed := true, recurses := true, apart := false }
def BoundProofsSaid : Prop := boundProofsRow.holds Try.pinned (OpenSpec.ofChange boundProofsSpec)

/-- ITS FALSE NEIGHBOUR: 'it returns false'. Refute it at one input. -/
def boundProofsWrong : ChangeSpec := { name := "boundProofs", fn := fun _ => fun
  | [d1, d2] => { results := [.lit (.bool false)], args := [d1, d2] }
  | _ => none }
def BoundProofsWrongFalsely : Prop := boundProofsRow.holds Try.pinned (OpenSpec.ofChange boundProofsWrong)

/-- 'bikesharelaw44.BoundBest': WHATEVER THE INPUT: true; the input reads as it did. -/
def boundBestSpec : ChangeSpec := { name := "boundBest", fn := fun _ => fun
  | [d1, d2] => { results := [.lit (.bool true)], args := [d1, d2] }
  | _ => none }
def boundBestRow : OpenClaim := { program := "ytgjfjbphngamgaa", sum := "380e15d974cc205ea6e8be43aaa33a92ad2ee903364ed4794ba3c916306abddf", func := "bikeshare/bikesharelaw44.BoundBest", spec := "boundBest", unfollowed := true, recurses := true, apart := false }
def BoundBestSaid : Prop := boundBestRow.holds Try.pinned (OpenSpec.ofChange boundBestSpec)

/-- ITS FALSE NEIGHBOUR: 'it returns false'. Refute it at one input. -/
def boundBestWrong : ChangeSpec := { name := "boundBest", fn := fun _ => fun
  | [d1, d2] => { results := [.lit (.bool false)], args := [d1, d2] }
  | _ => none }
def BoundBestWrongFalsely : Prop := boundBestRow.holds Try.pinned (OpenSpec.ofChange boundBestWrong)

/-- 'bikesharelaw44.BoundEases': WHATEVER THE INPUT: true; the input reads as it did. -/
def boundEasesSpec : ChangeSpec := { name := "boundEases", fn := fun _ => fun
  | [d1, d2, d3] => { results := [.lit (.bool true)], args := [d1, d2, d3] }
  | _ => none }
def boundEasesRow : OpenClaim := { program := "ytgjfjbphngamgaa", sum := "380e15d974cc205ea6e8be43aaa33a92ad2ee903364ed4794ba3c916306abddf", func := "bikeshare/bikesharelaw44.BoundEases", spec := "boundEases", unfollowed := true, recurses := true, apart := false }
def BoundEasesSaid : Prop := boundEasesRow.holds Try.pinned (OpenSpec.ofChange boundEasesSpec)

/-- ITS FALSE NEIGHBOUR: 'it returns false'. Refute it at one input. -/
def boundEasesWrong : ChangeSpec := { name := "boundEases", fn := fun _ => fun
  | [d1, d2, d3] => { results := [.lit (.bool false)], args := [d1, d2, d3] }
  | _ => none }
def BoundEasesWrongFalsely : Prop := boundEasesRow.holds Try.pinned (OpenSpec.ofChange boundEasesWrong)

/-- 'bikesharelaw44.BoundNeeds': WHATEVER THE INPUT: true; the input reads as it did. -/
def boundNeedsSpec : ChangeSpec := { name := "boundNeeds", fn := fun _ => fun
  | [d1, d2, d3] => { results := [.lit (.bool true)], args := [d1, d2, d3] }
  | _ => none }
def boundNeedsRow : OpenClaim := { program := "ytgjfjbphngamgaa", sum := "380e15d974cc205ea6e8be43aaa33a92ad2ee903364ed4794ba3c916306abddf", func := "bikeshare/bikesharelaw44.BoundNeeds", spec := "boundNeeds", unfollowed := true, recurses := true, apart := false }
def BoundNeedsSaid : Prop := boundNeedsRow.holds Try.pinned (OpenSpec.ofChange boundNeedsSpec)

/-- ITS FALSE NEIGHBOUR: 'it returns false'. Refute it at one input. -/
def boundNeedsWrong : ChangeSpec := { name := "boundNeeds", fn := fun _ => fun
  | [d1, d2, d3] => { results := [.lit (.bool false)], args := [d1, d2, d3] }
  | _ => none }
def BoundNeedsWrongFalsely : Prop := boundNeedsRow.holds Try.pinned (OpenSpec.ofChange boundNeedsWrong)

/-- 'bikesharelaw44.BoundSound': WHATEVER THE INPUT: true; the input reads as it did. -/
def boundSoundSpec : ChangeSpec := { name := "boundSound", fn := fun _ => fun
  | [d1, d2, d3] => { results := [.lit (.bool true)], args := [d1, d2, d3] }
  | _ => none }
def boundSoundRow : OpenClaim := { program := "ytgjfjbphngamgaa", sum := "380e15d974cc205ea6e8be43aaa33a92ad2ee903364ed4794ba3c916306abddf", func := "bikeshare/bikesharelaw44.BoundSound", spec := "boundSound", unfollowed := true, recurses := true, apart := false }
def BoundSoundSaid : Prop := boundSoundRow.holds Try.pinned (OpenSpec.ofChange boundSoundSpec)

/-- ITS FALSE NEIGHBOUR: 'it returns false'. Refute it at one input. -/
def boundSoundWrong : ChangeSpec := { name := "boundSound", fn := fun _ => fun
  | [d1, d2, d3] => { results := [.lit (.bool false)], args := [d1, d2, d3] }
  | _ => none }
def BoundSoundWrongFalsely : Prop := boundSoundRow.holds Try.pinned (OpenSpec.ofChange boundSoundWrong)

/- THE SECOND FORM. 'bulk': how many values and letters a reading holds, each counted each time it is reached (what is shared counts as often as it is met; a slice's spare places count too). A statement '..UptoSaid' is the law's where the arguments, and the package variables that the reading takes, are together of bulk at most 1048576: NARROWER than '..Said'. Prove '..Said' where nothing that the law and all that it calls make is longer than what came in: it says more and counts as full. Else prove '..UptoSaid'. A law counts once. -/
mutual
def uptoBulk {H : Type} : DataW H → Nat
  | .lit (.string bytes) => bytes.length + 1
  | .lit _ => 1
  | .nil => 1
  | .ptr d => uptoBulk d + 1
  | .slice elems spare => uptoBulkAll elems + uptoBulkAll spare + 1
  | .agg parts => uptoBulkAll parts + 1
  | .iface _ d => uptoBulk d + 1
  | .map entries => uptoBulkEntries entries + 1
  | .held _ => 1
def uptoBulkAll {H : Type} : List (DataW H) → Nat
  | [] => 0
  | d :: r => uptoBulk d + uptoBulkAll r
def uptoBulkEntries {H : Type} : List (Lit × DataW H) → Nat
  | [] => 0
  | x :: r => uptoBulkEntry x + uptoBulkEntries r
def uptoBulkEntry {H : Type} : Lit × DataW H → Nat
  | (.string bytes, d) => bytes.length + uptoBulk d + 1
  | (_, d) => uptoBulk d + 1
 end
def uptoSmall : (H : Type) → List (DataW H) → Bool := fun _ ds => decide (uptoBulkAll ds ≤ 1048576)
def OpenSpec.upto (s : _root_.Go.ChangeSpec) : _root_.Go.OpenSpec := { _root_.Go.OpenSpec.ofChange s with cond := some uptoSmall }

/-- 'bikesharelaw44.BoundFinds', WHERE WHAT IT READS IS OF BULK AT MOST 1048576: true; the input reads as it did. -/
def boundFindsUptoRow : OpenClaim := { program := "ytgjfjbphngamgaa", sum := "380e15d974cc205ea6e8be43aaa33a92ad2ee903364ed4794ba3c916306abddf", func := "bikeshare/bikesharelaw44.BoundFinds", spec := "boundFinds", unfollowed := true, recurses := true, apart := false, narrowed := true }
def BoundFindsUptoSaid : Prop := boundFindsUptoRow.holds Try.pinned (OpenSpec.upto boundFindsSpec)

/-- 'bikesharelaw44.BoundProofs', WHERE WHAT IT READS IS OF BULK AT MOST 1048576: true; the input reads as it did. -/
def boundProofsUptoRow : OpenClaim := { program := "ytgjfjbphngamgaa", sum := "380e15d974cc205ea6e8be43aaa33a92ad2ee903364ed4794ba3c916306abddf", func := "bikeshare/bikesharelaw44.BoundProofs", spec := "boundProofs", unfollowed := true, recurses := true, apart := false, narrowed := true }
def BoundProofsUptoSaid : Prop := boundProofsUptoRow.holds Try.pinned (OpenSpec.upto boundProofsSpec)

/-- 'bikesharelaw44.BoundBest', WHERE WHAT IT READS IS OF BULK AT MOST 1048576: true; the input reads as it did. -/
def boundBestUptoRow : OpenClaim := { program := "ytgjfjbphngamgaa", sum := "380e15d974cc205ea6e8be43aaa33a92ad2ee903364ed4794ba3c916306abddf", func := "bikeshare/bikesharelaw44.BoundBest", spec := "boundBest", unfollowed := true, recurses := true, apart := false, narrowed := true }
def BoundBestUptoSaid : Prop := boundBestUptoRow.holds Try.pinned (OpenSpec.upto boundBestSpec)

/-- 'bikesharelaw44.BoundEases', WHERE WHAT IT READS IS OF BULK AT MOST 1048576: true; the input reads as it did. -/
def boundEasesUptoRow : OpenClaim := { program := "ytgjfjbphngamgaa", sum := "380e15d974cc205ea6e8be43aaa33a92ad2ee903364ed4794ba3c916306abddf", func := "bikeshare/bikesharelaw44.BoundEases", spec := "boundEases", unfollowed := true, recurses := true, apart := false, narrowed := true }
def BoundEasesUptoSaid : Prop := boundEasesUptoRow.holds Try.pinned (OpenSpec.upto boundEasesSpec)

/-- 'bikesharelaw44.BoundNeeds', WHERE WHAT IT READS IS OF BULK AT MOST 1048576: true; the input reads as it did. -/
def boundNeedsUptoRow : OpenClaim := { program := "ytgjfjbphngamgaa", sum := "380e15d974cc205ea6e8be43aaa33a92ad2ee903364ed4794ba3c916306abddf", func := "bikeshare/bikesharelaw44.BoundNeeds", spec := "boundNeeds", unfollowed := true, recurses := true, apart := false, narrowed := true }
def BoundNeedsUptoSaid : Prop := boundNeedsUptoRow.holds Try.pinned (OpenSpec.upto boundNeedsSpec)

/-- 'bikesharelaw44.BoundSound', WHERE WHAT IT READS IS OF BULK AT MOST 1048576: true; the input reads as it did. -/
def boundSoundUptoRow : OpenClaim := { program := "ytgjfjbphngamgaa", sum := "380e15d974cc205ea6e8be43aaa33a92ad2ee903364ed4794ba3c916306abddf", func := "bikeshare/bikesharelaw44.BoundSound", spec := "boundSound", unfollowed := true, recurses := true, apart := false, narrowed := true }
def BoundSoundUptoSaid : Prop := boundSoundUptoRow.holds Try.pinned (OpenSpec.upto boundSoundSpec)

end Rows
end Go.Proofs.Ytgjfjbphngamgaa
