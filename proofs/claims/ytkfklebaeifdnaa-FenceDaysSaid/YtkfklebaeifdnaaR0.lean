/-
  What the arguments of this seat's laws read as.
-/
import Derived.Test.YtkfklebaeifdnaaRows
import Derived.Test.YtkfklebaeifdnaaF19
import Derived.Test.YtkfklebaeifdnaaArg
set_option linter.all false
namespace Go.Proofs.Ytkfklebaeifdnaa
open Go Go.W Go.RowKit
open Go.ChangeShapes Go.WideShapes Go.ChangeAt

theorem own : ownKnob Try.prog.godebug = none := by kernel_rfl
theorem laidOut : laidOutB Try.prog = true := by kernel_rfl
section
variable {H : Type} {enc : TypeId × Value → H} {w : World} {base : Nat} {spare : Nat → Bool} {held : Bool}
theorem rdInt : Rd enc Try.prog w base spare held 3 (fun n : Int => [I n]) (fun n => (Lit.int .i64 n).wf = true) := Rd.int Try.underlying3
theorem rdPt : Rd enc Try.prog w base spare held 36 ptCells (fun _ => True) :=
  (Rd.struct (tot := 2) Try.underlying36 (by kernel_rfl) (RdF.cons (sz := 1) rdInt rfl rfl (by kernel_rfl) (RdF.cons (sz := 1) rdInt rfl rfl (by kernel_rfl) RdF.nil))).conv (fun p => ⟨p.1, p.2.1⟩) (fun _ => rfl) (fun _ _ => trivial)
theorem rdWin : Rd enc Try.prog w base spare held 26 (fun p : Int × Int => [I p.1, I p.2]) (fun _ => True) :=
  (Rd.struct (tot := 2) Try.underlying26 (by kernel_rfl) (RdF.cons (sz := 1) rdInt rfl rfl (by kernel_rfl) (RdF.cons (sz := 1) rdInt rfl rfl (by kernel_rfl) RdF.nil))).conv (fun p => (p.1, p.2.1)) (fun _ => rfl) (fun _ _ => trivial)
theorem rdPts : Rd enc Try.prog w base spare held 24 (slCells (α := Pt)) (SlG w 2 ptCells (fun _ => True)) := Rd.slice Try.underlying24 (by kernel_rfl) (by decide) rdPt
theorem rdFen : Rd enc Try.prog w base spare held 28 fenCells (FenAt w) :=
  (Rd.struct (tot := 6) Try.underlying28 (by kernel_rfl) (RdF.cons (sz := 1) rdInt rfl rfl (by kernel_rfl) (RdF.cons (sz := 1) rdPts rfl rfl (by kernel_rfl) (RdF.cons (sz := 2) rdWin rfl rfl (by kernel_rfl) (RdF.cons (sz := 2) rdWin rfl rfl (by kernel_rfl) RdF.nil))))).conv
    (fun p => ⟨p.1, p.2.1, p.2.2.1.1, p.2.2.1.2, p.2.2.2.1.1, p.2.2.2.1.2⟩) (fun _ => rfl) (fun _ h => ⟨h.2.1.rows, h.2.1.len⟩)
theorem rdFens : Rd enc Try.prog w base spare held 22 (slCells (α := Fen)) (SlG w 6 fenCells (FenAt w)) := Rd.slice Try.underlying22 (by kernel_rfl) (by decide) rdFen
theorem fensAt {s : SlA Fen} (h : SlG w 6 fenCells (FenAt w) s) : FensAt w s.A s.l := ⟨h.rows, h.all, h.len⟩
structure LookG where
  k : Int
  c : Pt
  r : Int
  t : Int
theorem rdLook : Rd enc Try.prog w base spare held 38 (fun x : LookG => lookCells x.k x.c x.r x.t) (fun x => (Lit.int .i64 x.r).wf = true) :=
  (Rd.struct (tot := 5) Try.underlying38 (by kernel_rfl) (RdF.cons (sz := 1) rdInt rfl rfl (by kernel_rfl) (RdF.cons (sz := 2) rdPt rfl rfl (by kernel_rfl) (RdF.cons (sz := 1) rdInt rfl rfl (by kernel_rfl) (RdF.cons (sz := 1) rdInt rfl rfl (by kernel_rfl) RdF.nil))))).conv
    (fun p => ⟨p.1, p.2.1, p.2.2.1, p.2.2.2.1⟩) (fun _ => rfl) (fun _ h => h.2.2.1)
end
end Go.Proofs.Ytkfklebaeifdnaa
