/-
  What the arguments of this seat's laws read as.
-/
import Derived.Test.YtgjfjbphngamgaaRows
import Derived.Test.YtgjfjbphngamgaaB7
import Derived.Test.YtgjfjbphngamgaaArg
set_option linter.all false
namespace Go.Proofs.Ytgjfjbphngamgaa
open Go Go.W Go.RowKit
open Go.ChangeShapes Go.WideShapes Go.ChangeAt

theorem own : ownKnob Try.prog.godebug = none := by kernel_rfl
theorem laidOut : laidOutB Try.prog = true := by kernel_rfl
section
variable {H : Type} {enc : TypeId × Value → H} {w : World} {base : Nat} {spare : Nat → Bool} {held : Bool}
theorem rdInt : Rd enc Try.prog w base spare held 3 (fun n : Int => [I n]) (fun n => (Lit.int .i64 n).wf = true) := Rd.int Try.underlying3
theorem rdInts : Rd enc Try.prog w base spare held 31 (slCells (α := Int)) (SlG w 1 (fun n => [I n]) (fun n => (Lit.int .i64 n).wf = true)) := Rd.slice Try.underlying31 (by kernel_rfl) (by decide) rdInt
theorem rdEdge3 : Rd enc Try.prog w base spare held 44 (fun p : Int × Int × Int × Unit => [I p.1] ++ ([I p.2.1] ++ ([I p.2.2.1] ++ [])))
    (fun p => (Lit.int .i64 p.1).wf = true ∧ (Lit.int .i64 p.2.1).wf = true ∧ (Lit.int .i64 p.2.2.1).wf = true ∧ True) := by
  refine Rd.struct (tot := 3) Try.underlying44 (by kernel_rfl) ?_
  exact RdF.cons (sz := 1) rdInt rfl rfl (by kernel_rfl) (RdF.cons (sz := 1) rdInt rfl rfl (by kernel_rfl) (RdF.cons (sz := 1) rdInt rfl rfl (by kernel_rfl) RdF.nil))
theorem rdEdge : Rd enc Try.prog w base spare held 44 edgCells (fun _ => True) := rdEdge3.conv (fun p => ⟨p.1, p.2.1, p.2.2.1⟩) (fun _ => rfl) (fun _ _ => trivial)
theorem rdEdges : Rd enc Try.prog w base spare held 22 (slCells (α := Edg)) (SlG w 3 edgCells (fun _ => True)) := Rd.slice Try.underlying22 (by kernel_rfl) (by decide) rdEdge
theorem rdRoad : Rd enc Try.prog w base spare held 24 (fun p : Int × SlA Edg × Unit => [I p.1] ++ (slCells p.2.1 ++ [])) (fun p => (Lit.int .i64 p.1).wf = true ∧ SlG w 3 edgCells (fun _ => True) p.2.1 ∧ True) := by
  refine Rd.struct (tot := 2) Try.underlying24 (by kernel_rfl) ?_
  exact RdF.cons (sz := 1) rdInt rfl rfl (by kernel_rfl) (RdF.cons (sz := 1) rdEdges rfl rfl (by kernel_rfl) RdF.nil)
theorem rdWin : Rd enc Try.prog w base spare held 40 (fun p : Int × Int × Unit => [I p.1] ++ ([I p.2.1] ++ [])) (fun p => (Lit.int .i64 p.1).wf = true ∧ (Lit.int .i64 p.2.1).wf = true ∧ True) := by
  refine Rd.struct (tot := 2) Try.underlying40 (by kernel_rfl) ?_
  exact RdF.cons (sz := 1) rdInt rfl rfl (by kernel_rfl) (RdF.cons (sz := 1) rdInt rfl rfl (by kernel_rfl) RdF.nil)
theorem rdTruck4 : Rd enc Try.prog w base spare held 42 (fun p : Int × Int × (Int × Int × Unit) × Unit => [I p.1] ++ ([I p.2.1] ++ (([I p.2.2.1.1] ++ ([I p.2.2.1.2.1] ++ [])) ++ [])))
    (fun p => (Lit.int .i64 p.1).wf = true ∧ (Lit.int .i64 p.2.1).wf = true ∧ ((Lit.int .i64 p.2.2.1.1).wf = true ∧ (Lit.int .i64 p.2.2.1.2.1).wf = true ∧ True) ∧ True) := by
  refine Rd.struct (tot := 4) Try.underlying42 (by kernel_rfl) ?_
  exact RdF.cons (sz := 1) rdInt rfl rfl (by kernel_rfl) (RdF.cons (sz := 1) rdInt rfl rfl (by kernel_rfl) (RdF.cons (sz := 2) rdWin rfl rfl (by kernel_rfl) RdF.nil))
theorem rdTruck : Rd enc Try.prog w base spare held 42 truckCells (fun _ => True) := rdTruck4.conv (fun p => ⟨p.1, p.2.1, p.2.2.1.1, p.2.2.1.2.1⟩) (fun _ => rfl) (fun _ _ => trivial)
theorem rdTrucks : Rd enc Try.prog w base spare held 25 (slCells (α := Truck)) (SlG w 4 truckCells (fun _ => True)) := Rd.slice Try.underlying25 (by kernel_rfl) (by decide) rdTruck
theorem rdNeed2 : Rd enc Try.prog w base spare held 48 (fun p : Int × Int × Unit => [I p.1] ++ ([I p.2.1] ++ [])) (fun p => (Lit.int .i64 p.1).wf = true ∧ (Lit.int .i64 p.2.1).wf = true ∧ True) := by
  refine Rd.struct (tot := 2) Try.underlying48 (by kernel_rfl) ?_
  exact RdF.cons (sz := 1) rdInt rfl rfl (by kernel_rfl) (RdF.cons (sz := 1) rdInt rfl rfl (by kernel_rfl) RdF.nil)
theorem rdNeed : Rd enc Try.prog w base spare held 48 needCells (fun _ => True) := rdNeed2.conv (fun p => ⟨p.1, p.2.1⟩) (fun _ => rfl) (fun _ _ => trivial)
theorem rdNeeds : Rd enc Try.prog w base spare held 26 (slCells (α := Need)) (SlG w 2 needCells (fun _ => True)) := Rd.slice Try.underlying26 (by kernel_rfl) (by decide) rdNeed
theorem rdNight5 : Rd enc Try.prog w base spare held 28 (fun p : (Int × SlA Edg × Unit) × SlA Truck × SlA Need × Int × Unit => ([I p.1.1] ++ (slCells p.1.2.1 ++ [])) ++ (slCells p.2.1 ++ (slCells p.2.2.1 ++ ([I p.2.2.2.1] ++ []))))
    (fun p => ((Lit.int .i64 p.1.1).wf = true ∧ SlG w 3 edgCells (fun _ => True) p.1.2.1 ∧ True) ∧ SlG w 4 truckCells (fun _ => True) p.2.1 ∧ SlG w 2 needCells (fun _ => True) p.2.2.1 ∧ (Lit.int .i64 p.2.2.2.1).wf = true ∧ True) := by
  refine Rd.struct (tot := 5) Try.underlying28 (by kernel_rfl) ?_
  exact RdF.cons (sz := 2) rdRoad rfl rfl (by kernel_rfl) (RdF.cons (sz := 1) rdTrucks rfl rfl (by kernel_rfl) (RdF.cons (sz := 1) rdNeeds rfl rfl (by kernel_rfl) (RdF.cons (sz := 1) rdInt rfl rfl (by kernel_rfl) RdF.nil)))
structure Ngt where
  n : Int
  E : SlA Edg
  T : SlA Truck
  N : SlA Need
  hd : Int
def ngtCells (g : Ngt) : List Value := [I g.n, .slice g.E.A g.E.l.length g.E.cap, .slice g.T.A g.T.l.length g.T.cap, .slice g.N.A g.N.l.length g.N.cap, I g.hd]
theorem rdNight : Rd enc Try.prog w base spare held 28 ngtCells (fun g => NightAt w g.E.A g.T.A g.N.A g.E.l g.T.l g.N.l g.N.cap) :=
  rdNight5.conv (fun p => ⟨p.1.1, p.1.2.1, p.2.1, p.2.2.1, p.2.2.2.1⟩) (fun _ => rfl) (fun _ h => ⟨h.1.2.1.rows, h.2.1.rows, h.2.2.1.rows, h.2.2.1.le⟩)
theorem rdRoute2 : Rd enc Try.prog w base spare held 87 (fun p : Int × SlA Int × Unit => [I p.1] ++ (slCells p.2.1 ++ [])) (fun p => (Lit.int .i64 p.1).wf = true ∧ SlG w 1 (fun n => [I n]) (fun n => (Lit.int .i64 n).wf = true) p.2.1 ∧ True) := by
  refine Rd.struct (tot := 2) Try.underlying87 (by kernel_rfl) ?_
  exact RdF.cons (sz := 1) rdInt rfl rfl (by kernel_rfl) (RdF.cons (sz := 1) rdInts rfl rfl (by kernel_rfl) RdF.nil)
structure RtG (w : World) (r : Rt) : Prop where
  ints : IntsAt w r.nd.A r.nd.l
  len : r.nd.l.length ≤ maxLen
  cap : r.nd.l.length ≤ r.nd.cap
theorem rdRoute : Rd enc Try.prog w base spare held 87 rtCells (RtG w) := rdRoute2.conv (fun p => ⟨p.1, p.2.1⟩) (fun _ => rfl) (fun _ h => ⟨h.2.1.rows.ones, h.2.1.len, h.2.1.le⟩)
theorem rdRoutes : Rd enc Try.prog w base spare held 50 (slCells (α := Rt)) (SlG w 2 rtCells (RtG w)) := Rd.slice Try.underlying50 (by kernel_rfl) (by decide) rdRoute
theorem rdPlan : Rd enc Try.prog w base spare held 52 (fun p : SlA Rt × SlA Int × Unit => slCells p.1 ++ (slCells p.2.1 ++ [])) (fun p => SlG w 2 rtCells (RtG w) p.1 ∧ SlG w 1 (fun n => [I n]) (fun n => (Lit.int .i64 n).wf = true) p.2.1 ∧ True) := by
  refine Rd.struct (tot := 2) Try.underlying52 (by kernel_rfl) ?_
  exact RdF.cons (sz := 1) rdRoutes rfl rfl (by kernel_rfl) (RdF.cons (sz := 1) rdInts rfl rfl (by kernel_rfl) RdF.nil)
theorem rtsAt0 {s : SlA Rt} (h : SlG w 2 rtCells (RtG w) s) : RtsAt0 w s.A s.l := ⟨h.rows, fun r hr => (h.all r hr).ints, fun r hr => (h.all r hr).cap⟩
structure Bnd where
  s : Int
  b : Int
  U : SlA Int
  V : SlA Int
theorem rdBound4 : Rd enc Try.prog w base spare held 33 (fun p : Int × Int × SlA Int × SlA Int × Unit => [I p.1] ++ ([I p.2.1] ++ (slCells p.2.2.1 ++ (slCells p.2.2.2.1 ++ []))))
    (fun p => (Lit.int .i64 p.1).wf = true ∧ (Lit.int .i64 p.2.1).wf = true ∧ SlG w 1 (fun n => [I n]) (fun n => (Lit.int .i64 n).wf = true) p.2.2.1 ∧ SlG w 1 (fun n => [I n]) (fun n => (Lit.int .i64 n).wf = true) p.2.2.2.1 ∧ True) := by
  refine Rd.struct (tot := 4) Try.underlying33 (by kernel_rfl) ?_
  exact RdF.cons (sz := 1) rdInt rfl rfl (by kernel_rfl) (RdF.cons (sz := 1) rdInt rfl rfl (by kernel_rfl) (RdF.cons (sz := 1) rdInts rfl rfl (by kernel_rfl) (RdF.cons (sz := 1) rdInts rfl rfl (by kernel_rfl) RdF.nil)))
def bndCells (g : Bnd) : List Value := [I g.s, I g.b, .slice g.U.A g.U.l.length g.U.cap, .slice g.V.A g.V.l.length g.V.cap]
theorem rdBound : Rd enc Try.prog w base spare held 33 bndCells (fun g => IntsAt w g.U.A g.U.l ∧ IntsAt w g.V.A g.V.l) := rdBound4.conv (fun p => ⟨p.1, p.2.1, p.2.2.1, p.2.2.2.1⟩) (fun _ => rfl) (fun _ h => ⟨h.2.2.1.rows.ones, h.2.2.2.1.rows.ones⟩)
end
end Go.Proofs.Ytgjfjbphngamgaa
