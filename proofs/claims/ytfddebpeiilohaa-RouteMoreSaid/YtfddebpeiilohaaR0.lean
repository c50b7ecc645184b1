/-
  What the arguments of this seat's laws read as.
-/
import Derived.Test.YtfddebpeiilohaaRows
import Derived.Test.YtfddebpeiilohaaN9
import Derived.Test.YtfddebpeiilohaaArg
set_option linter.all false
namespace Go.Proofs.Ytfddebpeiilohaa
open Go Go.W Go.RowKit
open Go.ChangeShapes Go.WideShapes Go.ChangeAt

theorem own : ownKnob Try.prog.godebug = none := by kernel_rfl
theorem laidOut : laidOutB Try.prog = true := by kernel_rfl
section
variable {H : Type} {enc : TypeId × Value → H} {w : World} {base : Nat} {spare : Nat → Bool} {held : Bool}
theorem rdInt : Rd enc Try.prog w base spare held 3 (fun n : Int => [I n]) (fun n => (Lit.int .i64 n).wf = true) := Rd.int Try.underlying3
theorem rdInts : Rd enc Try.prog w base spare held 29 (slCells (α := Int)) (SlG w 1 (fun n => [I n]) (fun n => (Lit.int .i64 n).wf = true)) := Rd.slice Try.underlying29 (by kernel_rfl) (by decide) rdInt
theorem rdEdge3 : Rd enc Try.prog w base spare held 72 (fun p : Int × Int × Int × Unit => [I p.1] ++ ([I p.2.1] ++ ([I p.2.2.1] ++ [])))
    (fun p => (Lit.int .i64 p.1).wf = true ∧ (Lit.int .i64 p.2.1).wf = true ∧ (Lit.int .i64 p.2.2.1).wf = true ∧ True) := by
  refine Rd.struct (tot := 3) Try.underlying72 (by kernel_rfl) ?_
  exact RdF.cons (sz := 1) rdInt rfl rfl (by kernel_rfl) (RdF.cons (sz := 1) rdInt rfl rfl (by kernel_rfl) (RdF.cons (sz := 1) rdInt rfl rfl (by kernel_rfl) RdF.nil))
theorem rdEdge : Rd enc Try.prog w base spare held 72 edgCells (fun _ => True) := rdEdge3.conv (fun p => ⟨p.1, p.2.1, p.2.2.1⟩) (fun _ => rfl) (fun _ _ => trivial)
theorem rdEdges : Rd enc Try.prog w base spare held 22 (slCells (α := Edg)) (SlG w 3 edgCells (fun _ => True)) := Rd.slice Try.underlying22 (by kernel_rfl) (by decide) rdEdge
theorem rdRoad : Rd enc Try.prog w base spare held 24 (fun p : Int × SlA Edg × Unit => [I p.1] ++ (slCells p.2.1 ++ [])) (fun p => (Lit.int .i64 p.1).wf = true ∧ SlG w 3 edgCells (fun _ => True) p.2.1 ∧ True) := by
  refine Rd.struct (tot := 2) Try.underlying24 (by kernel_rfl) ?_
  exact RdF.cons (sz := 1) rdInt rfl rfl (by kernel_rfl) (RdF.cons (sz := 1) rdEdges rfl rfl (by kernel_rfl) RdF.nil)
theorem rdWin : Rd enc Try.prog w base spare held 52 (fun p : Int × Int × Unit => [I p.1] ++ ([I p.2.1] ++ [])) (fun p => (Lit.int .i64 p.1).wf = true ∧ (Lit.int .i64 p.2.1).wf = true ∧ True) := by
  refine Rd.struct (tot := 2) Try.underlying52 (by kernel_rfl) ?_
  exact RdF.cons (sz := 1) rdInt rfl rfl (by kernel_rfl) (RdF.cons (sz := 1) rdInt rfl rfl (by kernel_rfl) RdF.nil)
theorem rdTruck4 : Rd enc Try.prog w base spare held 54 (fun p : Int × Int × (Int × Int × Unit) × Unit => [I p.1] ++ ([I p.2.1] ++ (([I p.2.2.1.1] ++ ([I p.2.2.1.2.1] ++ [])) ++ [])))
    (fun p => (Lit.int .i64 p.1).wf = true ∧ (Lit.int .i64 p.2.1).wf = true ∧ ((Lit.int .i64 p.2.2.1.1).wf = true ∧ (Lit.int .i64 p.2.2.1.2.1).wf = true ∧ True) ∧ True) := by
  refine Rd.struct (tot := 4) Try.underlying54 (by kernel_rfl) ?_
  exact RdF.cons (sz := 1) rdInt rfl rfl (by kernel_rfl) (RdF.cons (sz := 1) rdInt rfl rfl (by kernel_rfl) (RdF.cons (sz := 2) rdWin rfl rfl (by kernel_rfl) RdF.nil))
theorem rdTruck : Rd enc Try.prog w base spare held 54 truckCells (fun _ => True) := rdTruck4.conv (fun p => ⟨p.1, p.2.1, p.2.2.1.1, p.2.2.1.2.1⟩) (fun _ => rfl) (fun _ _ => trivial)
theorem rdTrucks : Rd enc Try.prog w base spare held 25 (slCells (α := Truck)) (SlG w 4 truckCells (fun _ => True)) := Rd.slice Try.underlying25 (by kernel_rfl) (by decide) rdTruck
theorem rdNeed2 : Rd enc Try.prog w base spare held 64 (fun p : Int × Int × Unit => [I p.1] ++ ([I p.2.1] ++ [])) (fun p => (Lit.int .i64 p.1).wf = true ∧ (Lit.int .i64 p.2.1).wf = true ∧ True) := by
  refine Rd.struct (tot := 2) Try.underlying64 (by kernel_rfl) ?_
  exact RdF.cons (sz := 1) rdInt rfl rfl (by kernel_rfl) (RdF.cons (sz := 1) rdInt rfl rfl (by kernel_rfl) RdF.nil)
theorem rdNeed : Rd enc Try.prog w base spare held 64 needCells (fun _ => True) := rdNeed2.conv (fun p => ⟨p.1, p.2.1⟩) (fun _ => rfl) (fun _ _ => trivial)
theorem rdNeeds : Rd enc Try.prog w base spare held 26 (slCells (α := Need)) (SlG w 2 needCells (fun _ => True)) := Rd.slice Try.underlying26 (by kernel_rfl) (by decide) rdNeed
theorem rdNight5 : Rd enc Try.prog w base spare held 28 (fun p : (Int × SlA Edg × Unit) × SlA Truck × SlA Need × Int × Unit => ([I p.1.1] ++ (slCells p.1.2.1 ++ [])) ++ (slCells p.2.1 ++ (slCells p.2.2.1 ++ ([I p.2.2.2.1] ++ []))))
    (fun p => ((Lit.int .i64 p.1.1).wf = true ∧ SlG w 3 edgCells (fun _ => True) p.1.2.1 ∧ True) ∧ SlG w 4 truckCells (fun _ => True) p.2.1 ∧ SlG w 2 needCells (fun _ => True) p.2.2.1 ∧ (Lit.int .i64 p.2.2.2.1).wf = true ∧ True) := by
  refine Rd.struct (tot := 5) Try.underlying28 (by kernel_rfl) ?_
  exact RdF.cons (sz := 2) rdRoad rfl rfl (by kernel_rfl) (RdF.cons (sz := 1) rdTrucks rfl rfl (by kernel_rfl) (RdF.cons (sz := 1) rdNeeds rfl rfl (by kernel_rfl) (RdF.cons (sz := 1) rdInt rfl rfl (by kernel_rfl) RdF.nil)))
structure NightAt (w : World) (A B C : Option Addr) (l : List Edg) (ts : List Truck) (ns : List Need) (cc : Nat) : Prop where
  z : EdgsAt w A l
  t : RowsAt 4 truckCells w B ts
  n : RowsAt 2 needCells w C ns
  c : ns.length ≤ cc
structure Ngt where
  n : Int
  E : SlA Edg
  T : SlA Truck
  N : SlA Need
  hd : Int
def ngtCells (g : Ngt) : List Value := [I g.n, .slice g.E.A g.E.l.length g.E.cap, .slice g.T.A g.T.l.length g.T.cap, .slice g.N.A g.N.l.length g.N.cap, I g.hd]
theorem rdNight : Rd enc Try.prog w base spare held 28 ngtCells (fun g => NightAt w g.E.A g.T.A g.N.A g.E.l g.T.l g.N.l g.N.cap) :=
  rdNight5.conv (fun p => ⟨p.1.1, p.1.2.1, p.2.1, p.2.2.1, p.2.2.2.1⟩) (fun _ => rfl) (fun _ h => ⟨h.1.2.1.rows, h.2.1.rows, h.2.2.1.rows, h.2.2.1.le⟩)
theorem rdAsk2 : Rd enc Try.prog w base spare held 31 (fun p : Int × SlA Int × Unit => [I p.1] ++ (slCells p.2.1 ++ [])) (fun p => (Lit.int .i64 p.1).wf = true ∧ SlG w 1 (fun n => [I n]) (fun n => (Lit.int .i64 n).wf = true) p.2.1 ∧ True) := by
  refine Rd.struct (tot := 2) Try.underlying31 (by kernel_rfl) ?_
  exact RdF.cons (sz := 1) rdInt rfl rfl (by kernel_rfl) (RdF.cons (sz := 1) rdInts rfl rfl (by kernel_rfl) RdF.nil)
structure AskA where
  t : Int
  nd : SlA Int
def askCells (a : AskA) : List Value := [I a.t, .slice a.nd.A a.nd.l.length a.nd.cap]
theorem rdAsk : Rd enc Try.prog w base spare held 31 askCells (fun a => IntsAt w a.nd.A a.nd.l) := rdAsk2.conv (fun p => ⟨p.1, p.2.1⟩) (fun _ => rfl) (fun _ h => h.2.1.rows.ones)
end
end Go.Proofs.Ytfddebpeiilohaa
