/-
  What the arguments of this seat's laws read as.
-/
import Derived.Test.YtmkgfgnpgoegcaaRows
import Derived.Test.YtmkgfgnpgoegcaaT25
import Derived.Test.YtmkgfgnpgoegcaaArg
set_option linter.all false
namespace Go.Proofs.Ytmkgfgnpgoegcaa
open Go Go.W Go.RowKit
open Go.ChangeShapes Go.WideShapes Go.ChangeAt

theorem own : ownKnob Try.prog.godebug = none := by kernel_rfl
theorem laidOut : laidOutB Try.prog = true := by kernel_rfl
section
variable {H : Type} {enc : TypeId × Value → H} {w : World} {base : Nat} {spare : Nat → Bool} {held : Bool}
theorem rdInt : Rd enc Try.prog w base spare held 3 (fun n : Int => [I n]) (fun n => (Lit.int .i64 n).wf = true) := Rd.int Try.underlying3
theorem rdBool : Rd enc Try.prog w base spare held 4 (fun b : Bool => [Bo b]) (fun _ => True) := Rd.bool Try.underlying4
theorem rdInts : Rd enc Try.prog w base spare held 22 (slCells (α := Int)) (SlG w 1 (fun n => [I n]) (fun n => (Lit.int .i64 n).wf = true)) := Rd.slice Try.underlying22 (by kernel_rfl) (by decide) rdInt
theorem rdBools : Rd enc Try.prog w base spare held 25 (slCells (α := Bool)) (SlG w 1 (fun n => [Bo n]) (fun _ => True)) := Rd.slice Try.underlying25 (by kernel_rfl) (by decide) rdBool
theorem rdTable : Rd enc Try.prog w base spare held 24 (fun p : Int × Int × SlA Int × Unit => [I p.1] ++ ([I p.2.1] ++ (slCells p.2.2.1 ++ []))) (fun p => (Lit.int .i64 p.1).wf = true ∧ (Lit.int .i64 p.2.1).wf = true ∧ SlG w 1 (fun n => [I n]) (fun n => (Lit.int .i64 n).wf = true) p.2.2.1 ∧ True) := by
  refine Rd.struct (tot := 3) Try.underlying24 (by kernel_rfl) ?_
  exact RdF.cons (sz := 1) rdInt rfl rfl (by kernel_rfl) (RdF.cons (sz := 1) rdInt rfl rfl (by kernel_rfl) (RdF.cons (sz := 1) rdInts rfl rfl (by kernel_rfl) RdF.nil))
end
end Go.Proofs.Ytmkgfgnpgoegcaa
