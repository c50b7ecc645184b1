/-
  What the arguments of this seat's laws read as.
-/
import Derived.Test.YthegjmgljolalaaRows
import Derived.Test.YthegjmgljolalaaT25
import Derived.Test.YthegjmgljolalaaArg
set_option linter.all false
namespace Go.Proofs.Ythegjmgljolalaa
open Go Go.W Go.RowKit
open Go.ChangeShapes Go.WideShapes Go.ChangeAt

theorem own : ownKnob Try.prog.godebug = none := by kernel_rfl
theorem laidOut : laidOutB Try.prog = true := by kernel_rfl
section
variable {H : Type} {enc : TypeId × Value → H} {w : World} {base : Nat} {spare : Nat → Bool} {held : Bool}
theorem rdInt : Rd enc Try.prog w base spare held 3 (fun n : Int => [I n]) (fun n => (Lit.int .i64 n).wf = true) := Rd.int Try.underlying3
theorem rdInts : Rd enc Try.prog w base spare held 36 (slCells (α := Int)) (SlG w 1 (fun n => [I n]) (fun n => (Lit.int .i64 n).wf = true)) := Rd.slice Try.underlying36 (by kernel_rfl) (by decide) rdInt
theorem rdArc4 : Rd enc Try.prog w base spare held 46 (fun p : Int × Int × Int × Int × Unit => [I p.1] ++ ([I p.2.1] ++ ([I p.2.2.1] ++ ([I p.2.2.2.1] ++ []))))
    (fun p => (Lit.int .i64 p.1).wf = true ∧ (Lit.int .i64 p.2.1).wf = true ∧ (Lit.int .i64 p.2.2.1).wf = true ∧ (Lit.int .i64 p.2.2.2.1).wf = true ∧ True) := by
  refine Rd.struct (tot := 4) Try.underlying46 (by kernel_rfl) ?_
  exact RdF.cons (sz := 1) rdInt rfl rfl (by kernel_rfl) (RdF.cons (sz := 1) rdInt rfl rfl (by kernel_rfl) (RdF.cons (sz := 1) rdInt rfl rfl (by kernel_rfl) (RdF.cons (sz := 1) rdInt rfl rfl (by kernel_rfl) RdF.nil)))
theorem rdArc : Rd enc Try.prog w base spare held 46 arcCells (fun _ => True) :=
  rdArc4.conv (fun p => ⟨p.1, p.2.1, p.2.2.1, p.2.2.2.1⟩) (fun _ => rfl) (fun _ _ => trivial)
theorem rdArcs : Rd enc Try.prog w base spare held 22 (slCells (α := Arc)) (SlG w 4 arcCells (fun _ => True)) := Rd.slice Try.underlying22 (by kernel_rfl) (by decide) rdArc
theorem rdNet : Rd enc Try.prog w base spare held 24 (fun p : Int × SlA Arc × Unit => [I p.1] ++ (slCells p.2.1 ++ [])) (fun p => (Lit.int .i64 p.1).wf = true ∧ SlG w 4 arcCells (fun _ => True) p.2.1 ∧ True) := by
  refine Rd.struct (tot := 2) Try.underlying24 (by kernel_rfl) ?_
  exact RdF.cons (sz := 1) rdInt rfl rfl (by kernel_rfl) (RdF.cons (sz := 1) rdArcs rfl rfl (by kernel_rfl) RdF.nil)
theorem rdFlow : Rd enc Try.prog w base spare held 38 (fun p : Int × Int × SlA Int × SlA Int × Unit => [I p.1] ++ ([I p.2.1] ++ (slCells p.2.2.1 ++ (slCells p.2.2.2.1 ++ []))))
    (fun p => (Lit.int .i64 p.1).wf = true ∧ (Lit.int .i64 p.2.1).wf = true ∧ SlG w 1 (fun n => [I n]) (fun n => (Lit.int .i64 n).wf = true) p.2.2.1 ∧ SlG w 1 (fun n => [I n]) (fun n => (Lit.int .i64 n).wf = true) p.2.2.2.1 ∧ True) := by
  refine Rd.struct (tot := 4) Try.underlying38 (by kernel_rfl) ?_
  exact RdF.cons (sz := 1) rdInt rfl rfl (by kernel_rfl) (RdF.cons (sz := 1) rdInt rfl rfl (by kernel_rfl) (RdF.cons (sz := 1) rdInts rfl rfl (by kernel_rfl) (RdF.cons (sz := 1) rdInts rfl rfl (by kernel_rfl) RdF.nil)))
end
end Go.Proofs.Ythegjmgljolalaa
