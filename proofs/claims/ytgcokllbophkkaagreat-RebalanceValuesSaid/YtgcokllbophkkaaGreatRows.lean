/-
  No cell of these rows narrows 'for every input' (looked for: loops, veiled, ifaces, maps, wideKeys, modest, calm, conditions, laid).
  DERIVED. THE GIVEN ROWS OF THIS SEAT. 6 by the template 'for every input the law returns true; each argument reads behind the call as it read before'; 0 by the template 'total and deterministic' (their statements: YtgcokllbophkkaaGreatTotals.lean).
  GIVEN WITH THE SEED: the statements are not yours to turn. If you find one false, say at which input.
  Laid BY PROGRAM, IN A SANDBOX (cutbox-rows.mjs): the forced cells as the released guide's own fill.sh prints them over the translation 212add95a7d4a1b2… (all of the seat's roots in one cut). By AI agents, Wed Nov 11 2026. No macro, syntax, notation, axiom, sorry.
-/
import Derived.Test.YtgcokllbophkkaaGreatChecked
import GoSem.Claim
import GoSem.ClaimJoined
import GoSem.ClaimMapViews
import Derived.JoinedTies
import Derived.KernelRfl
namespace Go.Proofs.YtgcokllbophkkaaGreat
/- THE CELL 'sum', in the pinned program and in every row, IS THE sha256 OF THE DUMP (.gsa) THAT YtgcokllbophkkaaGreatProg.lean LOADS. Nothing in Lean hashes anything: it is a label: what it is worth is what the hold of that sum in a sandbox is worth. -/
noncomputable def Tryz.pinned : Pinned := { name := "ytgcokllbophkkaagreat", sum := "212add95a7d4a1b2d92e7e1ecb97ad2bc60e5bbe309335895731f25e5e2be618", checked := Tryz.checked }
namespace Rows
def none {H : Type} : Left H := { results := [], args := [] }

/-- 'bikesharelaw45.RebalanceMakes': WHATEVER THE INPUT: true; the input reads as it did. -/
def rebalanceMakesSpec : ChangeSpec := { name := "rebalanceMakes", fn := fun _ => fun
  | [d] => { results := [.lit (.bool true)], args := [d] }
  | _ => none }
def rebalanceMakesRow : OpenClaim := { program := "ytgcokllbophkkaagreat", sum := "212add95a7d4a1b2d92e7e1ecb97ad2bc60e5bbe309335895731f25e5e2be618", func := "bikeshare/bikesharelaw45.RebalanceMakes", spec := "rebalanceMakes", unfollowed := true, recurses := true, apart := false }
def RebalanceMakesSaid : Prop := rebalanceMakesRow.holds Tryz.pinned (OpenSpec.ofChange rebalanceMakesSpec)

/-- ITS FALSE NEIGHBOUR: 'it returns false'. Refute it at one input. -/
def rebalanceMakesWrong : ChangeSpec := { name := "rebalanceMakes", fn := fun _ => fun
  | [d] => { results := [.lit (.bool false)], args := [d] }
  | _ => none }
def RebalanceMakesWrongFalsely : Prop := rebalanceMakesRow.holds Tryz.pinned (OpenSpec.ofChange rebalanceMakesWrong)

/-- 'bikesharelaw45.RebalanceValues': WHATEVER THE INPUT: true; the input reads as it did. -/
def rebalanceValuesSpec : ChangeSpec := { name := "rebalanceValues", fn := fun _ => fun
  | [d1, d2] => { results := [.lit (.bool true)], args := [d1, d2] }
  | _ => none }
def rebalanceValuesRow : OpenClaim := { program := "ytgcokllbophkkaagreat", sum := "212add95a7d4a1b2d92e7e1ecb97ad2bc60e5bbe309335895731f25e5e2be618", func := "bikeshare/bikesharelaw45.RebalanceValues", spec := "rebalanceValues", unfollowed := true, recurses := true, apart := false }
def RebalanceValuesSaid : Prop := rebalanceValuesRow.holds Tryz.pinned (OpenSpec.ofChange rebalanceValuesSpec)

/-- ITS FALSE NEIGHBOUR: 'it returns false'. Refute it at one input. -/
def rebalanceValuesWrong : ChangeSpec := { name := "rebalanceValues", fn := fun _ => fun
  | [d1, d2] => { results := [.lit (.bool false)], args := [d1, d2] }
  | _ => none }
def RebalanceValuesWrongFalsely : Prop := rebalanceValuesRow.holds Tryz.pinned (OpenSpec.ofChange rebalanceValuesWrong)

/-- 'bikesharelaw45.RebalanceCompares': WHATEVER THE INPUT: true; the input reads as it did. -/
def rebalanceComparesSpec : ChangeSpec := { name := "rebalanceCompares", fn := fun _ => fun
  | [d1, d2, d3] => { results := [.lit (.bool true)], args := [d1, d2, d3] }
  | _ => none }
def rebalanceComparesRow : OpenClaim := { program := "ytgcokllbophkkaagreat", sum := "212add95a7d4a1b2d92e7e1ecb97ad2bc60e5bbe309335895731f25e5e2be618", func := "bikeshare/bikesharelaw45.RebalanceCompares", spec := "rebalanceCompares", unfollowed := true, recurses := true, apart := false }
def RebalanceComparesSaid : Prop := rebalanceComparesRow.holds Tryz.pinned (OpenSpec.ofChange rebalanceComparesSpec)

/-- ITS FALSE NEIGHBOUR: 'it returns false'. Refute it at one input. -/
def rebalanceComparesWrong : ChangeSpec := { name := "rebalanceCompares", fn := fun _ => fun
  | [d1, d2, d3] => { results := [.lit (.bool false)], args := [d1, d2, d3] }
  | _ => none }
def RebalanceComparesWrongFalsely : Prop := rebalanceComparesRow.holds Tryz.pinned (OpenSpec.ofChange rebalanceComparesWrong)

/-- 'bikesharelaw45.RebalanceFeasible': WHATEVER THE INPUT: true; the input reads as it did. -/
def rebalanceFeasibleSpec : ChangeSpec := { name := "rebalanceFeasible", fn := fun _ => fun
  | [d1, d2] => { results := [.lit (.bool true)], args := [d1, d2] }
  | _ => none }
def rebalanceFeasibleRow : OpenClaim := { program := "ytgcokllbophkkaagreat", sum := "212add95a7d4a1b2d92e7e1ecb97ad2bc60e5bbe309335895731f25e5e2be618", func := "bikeshare/bikesharelaw45.RebalanceFeasible", spec := "rebalanceFeasible", unfollowed := true, recurses := true, apart := false }
def RebalanceFeasibleSaid : Prop := rebalanceFeasibleRow.holds Tryz.pinned (OpenSpec.ofChange rebalanceFeasibleSpec)

/-- ITS FALSE NEIGHBOUR: 'it returns false'. Refute it at one input. -/
def rebalanceFeasibleWrong : ChangeSpec := { name := "rebalanceFeasible", fn := fun _ => fun
  | [d1, d2] => { results := [.lit (.bool false)], args := [d1, d2] }
  | _ => none }
def RebalanceFeasibleWrongFalsely : Prop := rebalanceFeasibleRow.holds Tryz.pinned (OpenSpec.ofChange rebalanceFeasibleWrong)

/-- 'bikesharelaw45.RebalanceBounded': WHATEVER THE INPUT: true; the input reads as it did. -/
def rebalanceBoundedSpec : ChangeSpec := { name := "rebalanceBounded", fn := fun _ => fun
  | [d1, d2] => { results := [.lit (.bool true)], args := [d1, d2] }
  | _ => none }
def rebalanceBoundedRow : OpenClaim := { program := "ytgcokllbophkkaagreat", sum := "212add95a7d4a1b2d92e7e1ecb97ad2bc60e5bbe309335895731f25e5e2be618", func := "bikeshare/bikesharelaw45.RebalanceBounded", spec := "rebalanceBounded", unfollowed := true, recurses := true, apart := false }
def RebalanceBoundedSaid : Prop := rebalanceBoundedRow.holds Tryz.pinned (OpenSpec.ofChange rebalanceBoundedSpec)

/-- ITS FALSE NEIGHBOUR: 'it returns false'. Refute it at one input. -/
def rebalanceBoundedWrong : ChangeSpec := { name := "rebalanceBounded", fn := fun _ => fun
  | [d1, d2] => { results := [.lit (.bool false)], args := [d1, d2] }
  | _ => none }
def RebalanceBoundedWrongFalsely : Prop := rebalanceBoundedRow.holds Tryz.pinned (OpenSpec.ofChange rebalanceBoundedWrong)

/-- 'bikesharelaw45.RebalanceOrder': WHATEVER THE INPUT: true; the input reads as it did. -/
def rebalanceOrderSpec : ChangeSpec := { name := "rebalanceOrder", fn := fun _ => fun
  | [d1, d2, d3, d4] => { results := [.lit (.bool true)], args := [d1, d2, d3, d4] }
  | _ => none }
def rebalanceOrderRow : OpenClaim := { program := "ytgcokllbophkkaagreat", sum := "212add95a7d4a1b2d92e7e1ecb97ad2bc60e5bbe309335895731f25e5e2be618", func := "bikeshare/bikesharelaw45.RebalanceOrder", spec := "rebalanceOrder", unfollowed := true, recurses := true, apart := false }
def RebalanceOrderSaid : Prop := rebalanceOrderRow.holds Tryz.pinned (OpenSpec.ofChange rebalanceOrderSpec)

/-- ITS FALSE NEIGHBOUR: 'it returns false'. Refute it at one input. -/
def rebalanceOrderWrong : ChangeSpec := { name := "rebalanceOrder", fn := fun _ => fun
  | [d1, d2, d3, d4] => { results := [.lit (.bool false)], args := [d1, d2, d3, d4] }
  | _ => none }
def RebalanceOrderWrongFalsely : Prop := rebalanceOrderRow.holds Tryz.pinned (OpenSpec.ofChange rebalanceOrderWrong)

/- THE SECOND FORM. 'bulk': how many values and letters a reading holds, each counted each time it is reached (what is shared counts as often as it is met; a slice's spare places count too). A statement '..UptoSaid' is the law's where the arguments, and the package variables that the reading takes, are together of bulk at most 1048576: NARROWER than '..Said'. Prove '..Said' where nothing that the law and all that it calls make is longer than what came in: it says more and counts as full. Else prove '..UptoSaid'. A law counts once. -/
mutual
def uptoBulk {H : Type} : DataW H → Nat
  | .lit (.string bytes) => bytes.length + 1
  | .lit _ => 1
  | .nil => 1
  | .ptr d => uptoBulk d + 1
  | .slice elems spare => uptoBulkAll elems + uptoBulkAll spare + 1
  | .agg parts => uptoBulkAll parts + 1
  | .iface _ d => uptoBulk d + 1
  | .map entries => uptoBulkEntries entries + 1
  | .held _ => 1
def uptoBulkAll {H : Type} : List (DataW H) → Nat
  | [] => 0
  | d :: r => uptoBulk d + uptoBulkAll r
def uptoBulkEntries {H : Type} : List (Lit × DataW H) → Nat
  | [] => 0
  | x :: r => uptoBulkEntry x + uptoBulkEntries r
def uptoBulkEntry {H : Type} : Lit × DataW H → Nat
  | (.string bytes, d) => bytes.length + uptoBulk d + 1
  | (_, d) => uptoBulk d + 1
 end
def uptoSmall : (H : Type) → List (DataW H) → Bool := fun _ ds => decide (uptoBulkAll ds ≤ 1048576)
def OpenSpec.upto (s : _root_.Go.ChangeSpec) : _root_.Go.OpenSpec := { _root_.Go.OpenSpec.ofChange s with cond := some uptoSmall }

/-- 'bikesharelaw45.RebalanceMakes', WHERE WHAT IT READS IS OF BULK AT MOST 1048576: true; the input reads as it did. -/
def rebalanceMakesUptoRow : OpenClaim := { program := "ytgcokllbophkkaagreat", sum := "212add95a7d4a1b2d92e7e1ecb97ad2bc60e5bbe309335895731f25e5e2be618", func := "bikeshare/bikesharelaw45.RebalanceMakes", spec := "rebalanceMakes", unfollowed := true, recurses := true, apart := false, narrowed := true }
def RebalanceMakesUptoSaid : Prop := rebalanceMakesUptoRow.holds Tryz.pinned (OpenSpec.upto rebalanceMakesSpec)

/-- 'bikesharelaw45.RebalanceValues', WHERE WHAT IT READS IS OF BULK AT MOST 1048576: true; the input reads as it did. -/
def rebalanceValuesUptoRow : OpenClaim := { program := "ytgcokllbophkkaagreat", sum := "212add95a7d4a1b2d92e7e1ecb97ad2bc60e5bbe309335895731f25e5e2be618", func := "bikeshare/bikesharelaw45.RebalanceValues", spec := "rebalanceValues", unfollowed := true, recurses := true, apart := false, narrowed := true }
def RebalanceValuesUptoSaid : Prop := rebalanceValuesUptoRow.holds Tryz.pinned (OpenSpec.upto rebalanceValuesSpec)

/-- 'bikesharelaw45.RebalanceCompares', WHERE WHAT IT READS IS OF BULK AT MOST 1048576: true; the input reads as it did. -/
def rebalanceComparesUptoRow : OpenClaim := { program := "ytgcokllbophkkaagreat", sum := "212add95a7d4a1b2d92e7e1ecb97ad2bc60e5bbe309335895731f25e5e2be618", func := "bikeshare/bikesharelaw45.RebalanceCompares", spec := "rebalanceCompares", unfollowed := true, recurses := true, apart := false, narrowed := true }
def RebalanceComparesUptoSaid : Prop := rebalanceComparesUptoRow.holds Tryz.pinned (OpenSpec.upto rebalanceComparesSpec)

/-- 'bikesharelaw45.RebalanceFeasible', WHERE WHAT IT READS IS OF BULK AT MOST 1048576: true; the input reads as it did. -/
def rebalanceFeasibleUptoRow : OpenClaim := { program := "ytgcokllbophkkaagreat", sum := "212add95a7d4a1b2d92e7e1ecb97ad2bc60e5bbe309335895731f25e5e2be618", func := "bikeshare/bikesharelaw45.RebalanceFeasible", spec := "rebalanceFeasible", unfollowed := true, recurses := true, apart := false, narrowed := true }
def RebalanceFeasibleUptoSaid : Prop := rebalanceFeasibleUptoRow.holds Tryz.pinned (OpenSpec.upto rebalanceFeasibleSpec)

/-- 'bikesharelaw45.RebalanceBounded', WHERE WHAT IT READS IS OF BULK AT MOST 1048576: true; the input reads as it did. -/
def rebalanceBoundedUptoRow : OpenClaim := { program := "ytgcokllbophkkaagreat", sum := "212add95a7d4a1b2d92e7e1ecb97ad2bc60e5bbe309335895731f25e5e2be618", func := "bikeshare/bikesharelaw45.RebalanceBounded", spec := "rebalanceBounded", unfollowed := true, recurses := true, apart := false, narrowed := true }
def RebalanceBoundedUptoSaid : Prop := rebalanceBoundedUptoRow.holds Tryz.pinned (OpenSpec.upto rebalanceBoundedSpec)

/-- 'bikesharelaw45.RebalanceOrder', WHERE WHAT IT READS IS OF BULK AT MOST 1048576: true; the input reads as it did. -/
def rebalanceOrderUptoRow : OpenClaim := { program := "ytgcokllbophkkaagreat", sum := "212add95a7d4a1b2d92e7e1ecb97ad2bc60e5bbe309335895731f25e5e2be618", func := "bikeshare/bikesharelaw45.RebalanceOrder", spec := "rebalanceOrder", unfollowed := true, recurses := true, apart := false, narrowed := true }
def RebalanceOrderUptoSaid : Prop := rebalanceOrderUptoRow.holds Tryz.pinned (OpenSpec.upto rebalanceOrderSpec)

end Rows
end Go.Proofs.YtgcokllbophkkaaGreat
