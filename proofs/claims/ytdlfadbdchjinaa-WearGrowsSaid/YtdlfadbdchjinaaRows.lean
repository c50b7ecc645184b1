/-
  No cell of these rows narrows 'for every input' (looked for: loops, veiled, ifaces, maps, wideKeys, modest, calm, conditions, laid).
  DERIVED. THE GIVEN ROWS OF THIS SEAT. 7 by the template 'for every input the law returns true; each argument reads behind the call as it read before'; 0 by the template 'total and deterministic' (their statements: YtdlfadbdchjinaaTotals.lean).
  GIVEN WITH THE SEED: the statements are not yours to turn. If you find one false, say at which input.
  Laid BY PROGRAM, IN A SANDBOX (cutbox-rows.mjs): the forced cells as the released guide's own fill.sh prints them over the translation 1e8830566e931c8c… (all of the seat's roots in one cut). By AI agents, Wed Nov 11 2026. No macro, syntax, notation, axiom, sorry.
-/
import Derived.Test.YtdlfadbdchjinaaChecked
import GoSem.Claim
import GoSem.ClaimJoined
import GoSem.ClaimMapViews
import Derived.JoinedTies
import Derived.KernelRfl
namespace Go.Proofs.Ytdlfadbdchjinaa
/- THE CELL 'sum', in the pinned program and in every row, IS THE sha256 OF THE DUMP (.gsa) THAT YtdlfadbdchjinaaProg.lean LOADS. Nothing in Lean hashes anything: it is a label: what it is worth is what the hold of that sum in a sandbox is worth. -/
noncomputable def Try.pinned : Pinned := { name := "ytdlfadbdchjinaa", sum := "1e8830566e931c8c845a57b200ce97cd3f1217e34e08ab53e940366fb3fe6c75", checked := Try.checked }
namespace Rows
def none {H : Type} : Left H := { results := [], args := [] }

/-- 'bikesharelaw47.WearOfs': WHATEVER THE INPUT: true; the input reads as it did. -/
def wearOfsSpec : ChangeSpec := { name := "wearOfs", fn := fun _ => fun
  | [d1, d2] => { results := [.lit (.bool true)], args := [d1, d2] }
  | _ => none }
def wearOfsRow : OpenClaim := { program := "ytdlfadbdchjinaa", sum := "1e8830566e931c8c845a57b200ce97cd3f1217e34e08ab53e940366fb3fe6c75", func := "bikeshare/bikesharelaw47.WearOfs", spec := "wearOfs", recurses := true, apart := false }
def WearOfsSaid : Prop := wearOfsRow.holds Try.pinned (OpenSpec.ofChange wearOfsSpec)

/-- ITS FALSE NEIGHBOUR: 'it returns false'. Refute it at one input. -/
def wearOfsWrong : ChangeSpec := { name := "wearOfs", fn := fun _ => fun
  | [d1, d2] => { results := [.lit (.bool false)], args := [d1, d2] }
  | _ => none }
def WearOfsWrongFalsely : Prop := wearOfsRow.holds Try.pinned (OpenSpec.ofChange wearOfsWrong)

/-- 'bikesharelaw47.WearReaches': WHATEVER THE INPUT: true; the input reads as it did. -/
def wearReachesSpec : ChangeSpec := { name := "wearReaches", fn := fun _ => fun
  | [d1, d2, d3] => { results := [.lit (.bool true)], args := [d1, d2, d3] }
  | _ => none }
def wearReachesRow : OpenClaim := { program := "ytdlfadbdchjinaa", sum := "1e8830566e931c8c845a57b200ce97cd3f1217e34e08ab53e940366fb3fe6c75", func := "bikeshare/bikesharelaw47.WearReaches", spec := "wearReaches", recurses := true, apart := false }
def WearReachesSaid : Prop := wearReachesRow.holds Try.pinned (OpenSpec.ofChange wearReachesSpec)

/-- ITS FALSE NEIGHBOUR: 'it returns false'. Refute it at one input. -/
def wearReachesWrong : ChangeSpec := { name := "wearReaches", fn := fun _ => fun
  | [d1, d2, d3] => { results := [.lit (.bool false)], args := [d1, d2, d3] }
  | _ => none }
def WearReachesWrongFalsely : Prop := wearReachesRow.holds Try.pinned (OpenSpec.ofChange wearReachesWrong)

/-- 'bikesharelaw47.WearMosts': WHATEVER THE INPUT: true; the input reads as it did. -/
def wearMostsSpec : ChangeSpec := { name := "wearMosts", fn := fun _ => fun
  | [d1, d2] => { results := [.lit (.bool true)], args := [d1, d2] }
  | _ => none }
def wearMostsRow : OpenClaim := { program := "ytdlfadbdchjinaa", sum := "1e8830566e931c8c845a57b200ce97cd3f1217e34e08ab53e940366fb3fe6c75", func := "bikeshare/bikesharelaw47.WearMosts", spec := "wearMosts", recurses := true, apart := false }
def WearMostsSaid : Prop := wearMostsRow.holds Try.pinned (OpenSpec.ofChange wearMostsSpec)

/-- ITS FALSE NEIGHBOUR: 'it returns false'. Refute it at one input. -/
def wearMostsWrong : ChangeSpec := { name := "wearMosts", fn := fun _ => fun
  | [d1, d2] => { results := [.lit (.bool false)], args := [d1, d2] }
  | _ => none }
def WearMostsWrongFalsely : Prop := wearMostsRow.holds Try.pinned (OpenSpec.ofChange wearMostsWrong)

/-- 'bikesharelaw47.WearAdds': WHATEVER THE INPUT: true; the input reads as it did. -/
def wearAddsSpec : ChangeSpec := { name := "wearAdds", fn := fun _ => fun
  | [d1, d2] => { results := [.lit (.bool true)], args := [d1, d2] }
  | _ => none }
def wearAddsRow : OpenClaim := { program := "ytdlfadbdchjinaa", sum := "1e8830566e931c8c845a57b200ce97cd3f1217e34e08ab53e940366fb3fe6c75", func := "bikeshare/bikesharelaw47.WearAdds", spec := "wearAdds", recurses := true, apart := false }
def WearAddsSaid : Prop := wearAddsRow.holds Try.pinned (OpenSpec.ofChange wearAddsSpec)

/-- ITS FALSE NEIGHBOUR: 'it returns false'. Refute it at one input. -/
def wearAddsWrong : ChangeSpec := { name := "wearAdds", fn := fun _ => fun
  | [d1, d2] => { results := [.lit (.bool false)], args := [d1, d2] }
  | _ => none }
def WearAddsWrongFalsely : Prop := wearAddsRow.holds Try.pinned (OpenSpec.ofChange wearAddsWrong)

/-- 'bikesharelaw47.WearReached': WHATEVER THE INPUT: true; the input reads as it did. -/
def wearReachedSpec : ChangeSpec := { name := "wearReached", fn := fun _ => fun
  | [d1, d2, d3] => { results := [.lit (.bool true)], args := [d1, d2, d3] }
  | _ => none }
def wearReachedRow : OpenClaim := { program := "ytdlfadbdchjinaa", sum := "1e8830566e931c8c845a57b200ce97cd3f1217e34e08ab53e940366fb3fe6c75", func := "bikeshare/bikesharelaw47.WearReached", spec := "wearReached", recurses := true, apart := false }
def WearReachedSaid : Prop := wearReachedRow.holds Try.pinned (OpenSpec.ofChange wearReachedSpec)

/-- ITS FALSE NEIGHBOUR: 'it returns false'. Refute it at one input. -/
def wearReachedWrong : ChangeSpec := { name := "wearReached", fn := fun _ => fun
  | [d1, d2, d3] => { results := [.lit (.bool false)], args := [d1, d2, d3] }
  | _ => none }
def WearReachedWrongFalsely : Prop := wearReachedRow.holds Try.pinned (OpenSpec.ofChange wearReachedWrong)

/-- 'bikesharelaw47.WearGrows': WHATEVER THE INPUT: true; the input reads as it did. -/
def wearGrowsSpec : ChangeSpec := { name := "wearGrows", fn := fun _ => fun
  | [d1, d2, d3] => { results := [.lit (.bool true)], args := [d1, d2, d3] }
  | _ => none }
def wearGrowsRow : OpenClaim := { program := "ytdlfadbdchjinaa", sum := "1e8830566e931c8c845a57b200ce97cd3f1217e34e08ab53e940366fb3fe6c75", func := "bikeshare/bikesharelaw47.WearGrows", spec := "wearGrows", recurses := true, apart := false }
def WearGrowsSaid : Prop := wearGrowsRow.holds Try.pinned (OpenSpec.ofChange wearGrowsSpec)

/-- ITS FALSE NEIGHBOUR: 'it returns false'. Refute it at one input. -/
def wearGrowsWrong : ChangeSpec := { name := "wearGrows", fn := fun _ => fun
  | [d1, d2, d3] => { results := [.lit (.bool false)], args := [d1, d2, d3] }
  | _ => none }
def WearGrowsWrongFalsely : Prop := wearGrowsRow.holds Try.pinned (OpenSpec.ofChange wearGrowsWrong)

/-- 'bikesharelaw47.WearCounts': WHATEVER THE INPUT: true; the input reads as it did. -/
def wearCountsSpec : ChangeSpec := { name := "wearCounts", fn := fun _ => fun
  | [d1, d2] => { results := [.lit (.bool true)], args := [d1, d2] }
  | _ => none }
def wearCountsRow : OpenClaim := { program := "ytdlfadbdchjinaa", sum := "1e8830566e931c8c845a57b200ce97cd3f1217e34e08ab53e940366fb3fe6c75", func := "bikeshare/bikesharelaw47.WearCounts", spec := "wearCounts", recurses := true, apart := false }
def WearCountsSaid : Prop := wearCountsRow.holds Try.pinned (OpenSpec.ofChange wearCountsSpec)

/-- ITS FALSE NEIGHBOUR: 'it returns false'. Refute it at one input. -/
def wearCountsWrong : ChangeSpec := { name := "wearCounts", fn := fun _ => fun
  | [d1, d2] => { results := [.lit (.bool false)], args := [d1, d2] }
  | _ => none }
def WearCountsWrongFalsely : Prop := wearCountsRow.holds Try.pinned (OpenSpec.ofChange wearCountsWrong)

/- THE SECOND FORM. 'bulk': how many values and letters a reading holds, each counted each time it is reached (what is shared counts as often as it is met; a slice's spare places count too). A statement '..UptoSaid' is the law's where the arguments, and the package variables that the reading takes, are together of bulk at most 1048576: NARROWER than '..Said'. Prove '..Said' where nothing that the law and all that it calls make is longer than what came in: it says more and counts as full. Else prove '..UptoSaid'. A law counts once. -/
mutual
def uptoBulk {H : Type} : DataW H → Nat
  | .lit (.string bytes) => bytes.length + 1
  | .lit _ => 1
  | .nil => 1
  | .ptr d => uptoBulk d + 1
  | .slice elems spare => uptoBulkAll elems + uptoBulkAll spare + 1
  | .agg parts => uptoBulkAll parts + 1
  | .iface _ d => uptoBulk d + 1
  | .map entries => uptoBulkEntries entries + 1
  | .held _ => 1
def uptoBulkAll {H : Type} : List (DataW H) → Nat
  | [] => 0
  | d :: r => uptoBulk d + uptoBulkAll r
def uptoBulkEntries {H : Type} : List (Lit × DataW H) → Nat
  | [] => 0
  | x :: r => uptoBulkEntry x + uptoBulkEntries r
def uptoBulkEntry {H : Type} : Lit × DataW H → Nat
  | (.string bytes, d) => bytes.length + uptoBulk d + 1
  | (_, d) => uptoBulk d + 1
 end
def uptoSmall : (H : Type) → List (DataW H) → Bool := fun _ ds => decide (uptoBulkAll ds ≤ 1048576)
def OpenSpec.upto (s : _root_.Go.ChangeSpec) : _root_.Go.OpenSpec := { _root_.Go.OpenSpec.ofChange s with cond := some uptoSmall }

/-- 'bikesharelaw47.WearOfs', WHERE WHAT IT READS IS OF BULK AT MOST 1048576: true; the input reads as it did. -/
def wearOfsUptoRow : OpenClaim := { program := "ytdlfadbdchjinaa", sum := "1e8830566e931c8c845a57b200ce97cd3f1217e34e08ab53e940366fb3fe6c75", func := "bikeshare/bikesharelaw47.WearOfs", spec := "wearOfs", recurses := true, apart := false, narrowed := true }
def WearOfsUptoSaid : Prop := wearOfsUptoRow.holds Try.pinned (OpenSpec.upto wearOfsSpec)

/-- 'bikesharelaw47.WearReaches', WHERE WHAT IT READS IS OF BULK AT MOST 1048576: true; the input reads as it did. -/
def wearReachesUptoRow : OpenClaim := { program := "ytdlfadbdchjinaa", sum := "1e8830566e931c8c845a57b200ce97cd3f1217e34e08ab53e940366fb3fe6c75", func := "bikeshare/bikesharelaw47.WearReaches", spec := "wearReaches", recurses := true, apart := false, narrowed := true }
def WearReachesUptoSaid : Prop := wearReachesUptoRow.holds Try.pinned (OpenSpec.upto wearReachesSpec)

/-- 'bikesharelaw47.WearMosts', WHERE WHAT IT READS IS OF BULK AT MOST 1048576: true; the input reads as it did. -/
def wearMostsUptoRow : OpenClaim := { program := "ytdlfadbdchjinaa", sum := "1e8830566e931c8c845a57b200ce97cd3f1217e34e08ab53e940366fb3fe6c75", func := "bikeshare/bikesharelaw47.WearMosts", spec := "wearMosts", recurses := true, apart := false, narrowed := true }
def WearMostsUptoSaid : Prop := wearMostsUptoRow.holds Try.pinned (OpenSpec.upto wearMostsSpec)

/-- 'bikesharelaw47.WearAdds', WHERE WHAT IT READS IS OF BULK AT MOST 1048576: true; the input reads as it did. -/
def wearAddsUptoRow : OpenClaim := { program := "ytdlfadbdchjinaa", sum := "1e8830566e931c8c845a57b200ce97cd3f1217e34e08ab53e940366fb3fe6c75", func := "bikeshare/bikesharelaw47.WearAdds", spec := "wearAdds", recurses := true, apart := false, narrowed := true }
def WearAddsUptoSaid : Prop := wearAddsUptoRow.holds Try.pinned (OpenSpec.upto wearAddsSpec)

/-- 'bikesharelaw47.WearReached', WHERE WHAT IT READS IS OF BULK AT MOST 1048576: true; the input reads as it did. -/
def wearReachedUptoRow : OpenClaim := { program := "ytdlfadbdchjinaa", sum := "1e8830566e931c8c845a57b200ce97cd3f1217e34e08ab53e940366fb3fe6c75", func := "bikeshare/bikesharelaw47.WearReached", spec := "wearReached", recurses := true, apart := false, narrowed := true }
def WearReachedUptoSaid : Prop := wearReachedUptoRow.holds Try.pinned (OpenSpec.upto wearReachedSpec)

/-- 'bikesharelaw47.WearGrows', WHERE WHAT IT READS IS OF BULK AT MOST 1048576: true; the input reads as it did. -/
def wearGrowsUptoRow : OpenClaim := { program := "ytdlfadbdchjinaa", sum := "1e8830566e931c8c845a57b200ce97cd3f1217e34e08ab53e940366fb3fe6c75", func := "bikeshare/bikesharelaw47.WearGrows", spec := "wearGrows", recurses := true, apart := false, narrowed := true }
def WearGrowsUptoSaid : Prop := wearGrowsUptoRow.holds Try.pinned (OpenSpec.upto wearGrowsSpec)

/-- 'bikesharelaw47.WearCounts', WHERE WHAT IT READS IS OF BULK AT MOST 1048576: true; the input reads as it did. -/
def wearCountsUptoRow : OpenClaim := { program := "ytdlfadbdchjinaa", sum := "1e8830566e931c8c845a57b200ce97cd3f1217e34e08ab53e940366fb3fe6c75", func := "bikeshare/bikesharelaw47.WearCounts", spec := "wearCounts", recurses := true, apart := false, narrowed := true }
def WearCountsUptoSaid : Prop := wearCountsUptoRow.holds Try.pinned (OpenSpec.upto wearCountsSpec)

end Rows
end Go.Proofs.Ytdlfadbdchjinaa
