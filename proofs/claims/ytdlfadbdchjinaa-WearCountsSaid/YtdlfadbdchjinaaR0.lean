/-
  What the arguments of this seat's laws read as.
-/
import Derived.Test.YtdlfadbdchjinaaRows
import Derived.Test.YtdlfadbdchjinaaW26
import Derived.Test.YtdlfadbdchjinaaArg
set_option linter.all false
namespace Go.Proofs.Ytdlfadbdchjinaa
open Go Go.W Go.RowKit
open Go.ChangeShapes Go.WideShapes Go.ChangeAt

theorem own : ownKnob Try.prog.godebug = none := by kernel_rfl
theorem laidOut : laidOutB Try.prog = true := by kernel_rfl
section
variable {H : Type} {enc : TypeId × Value → H} {w : World} {base : Nat} {spare : Nat → Bool} {held : Bool}
theorem rdInt : Rd enc Try.prog w base spare held 3 (fun n : Int => [I n]) (fun n => (Lit.int .i64 n).wf = true) := Rd.int Try.underlying3
theorem rdB : Rd enc Try.prog w base spare held 4 (fun b : Bool => [Bo b]) (fun _ => True) := Rd.bool Try.underlying4
theorem rdInts : Rd enc Try.prog w base spare held 22 (slCells (α := Int)) (SlG w 1 (fun n => [I n]) (fun n => (Lit.int .i64 n).wf = true)) := Rd.slice Try.underlying22 (by kernel_rfl) (by decide) rdInt
theorem rdSpan : Rd enc Try.prog w base spare held 46 (fun p : Int × Int × Unit => [I p.1] ++ ([I p.2.1] ++ [])) (fun _ => True) :=
  (Rd.struct (tot := 2) Try.underlying46 (by kernel_rfl) (RdF.cons (sz := 1) rdInt rfl rfl (by kernel_rfl) (RdF.cons (sz := 1) rdInt rfl rfl (by kernel_rfl) RdF.nil))).mono (fun _ _ => trivial)
theorem rdWin : Rd enc Try.prog w base spare held 29 (fun p : Int × Int => [I p.1, I p.2]) (fun _ => True) := by
  refine (Rd.struct (tot := 2) Try.underlying29 (by kernel_rfl) (RdF.cons (sz := 1) rdInt rfl rfl (by kernel_rfl) (RdF.cons (sz := 1) rdInt rfl rfl (by kernel_rfl) RdF.nil))).conv (fun p => (p.1, p.2.1)) (fun _ => rfl) (fun _ _ => trivial)
theorem rdLeg : Rd enc Try.prog w base spare held 54 legCells (fun _ => True) :=
  (Rd.struct (tot := 5) Try.underlying54 (by kernel_rfl) (RdF.cons (sz := 1) rdInt rfl rfl (by kernel_rfl) (RdF.cons (sz := 2) rdSpan rfl rfl (by kernel_rfl) (RdF.cons (sz := 2) rdSpan rfl rfl (by kernel_rfl) RdF.nil)))).conv (fun p => ⟨p.1, p.2.1.1, p.2.1.2.1, p.2.2.1.1, p.2.2.1.2.1⟩) (fun _ => rfl) (fun _ _ => trivial)
theorem rdPau : Rd enc Try.prog w base spare held 89 pauCells (fun _ => True) :=
  (Rd.struct (tot := 4) Try.underlying89 (by kernel_rfl) (RdF.cons (sz := 2) rdSpan rfl rfl (by kernel_rfl) (RdF.cons (sz := 2) rdSpan rfl rfl (by kernel_rfl) RdF.nil))).conv (fun p => ⟨p.1.1, p.1.2.1, p.2.1.1, p.2.1.2.1⟩) (fun _ => rfl) (fun _ _ => trivial)
theorem rdLegs : Rd enc Try.prog w base spare held 47 (slCells (α := Leg)) (SlG w 5 legCells (fun _ => True)) := Rd.slice Try.underlying47 (by kernel_rfl) (by decide) rdLeg
theorem rdPaus : Rd enc Try.prog w base spare held 48 (slCells (α := Pau)) (SlG w 4 pauCells (fun _ => True)) := Rd.slice Try.underlying48 (by kernel_rfl) (by decide) rdPau
theorem rdRide : Rd enc Try.prog w base spare held 50 rideCells (RideAt w) :=
  (Rd.struct (tot := 13) Try.underlying50 (by kernel_rfl) (RdF.cons (sz := 1) rdInt rfl rfl (by kernel_rfl) (RdF.cons (sz := 1) rdInt rfl rfl (by kernel_rfl) (RdF.cons (sz := 2) rdSpan rfl rfl (by kernel_rfl) (RdF.cons (sz := 2) rdSpan rfl rfl (by kernel_rfl) (RdF.cons (sz := 1) rdB rfl rfl (by kernel_rfl)
    (RdF.cons (sz := 1) rdLegs rfl rfl (by kernel_rfl) (RdF.cons (sz := 1) rdPaus rfl rfl (by kernel_rfl) (RdF.cons (sz := 1) rdInt rfl rfl (by kernel_rfl) (RdF.cons (sz := 1) rdInt rfl rfl (by kernel_rfl) (RdF.cons (sz := 1) rdInt rfl rfl (by kernel_rfl) (RdF.cons (sz := 1) rdInt rfl rfl (by kernel_rfl) RdF.nil)))))))))))).conv
    (fun p => ⟨p.1, p.2.1, p.2.2.1.1, p.2.2.1.2.1, p.2.2.2.1.1, p.2.2.2.1.2.1, p.2.2.2.2.1, p.2.2.2.2.2.1, p.2.2.2.2.2.2.1, p.2.2.2.2.2.2.2.1, p.2.2.2.2.2.2.2.2.1, p.2.2.2.2.2.2.2.2.2.1, p.2.2.2.2.2.2.2.2.2.2.1⟩) (fun _ => rfl)
    (fun _ h => ⟨h.2.2.2.2.2.1.rows, h.2.2.2.2.2.2.1.rows, h.2.2.2.2.2.1.len, h.2.2.2.2.2.2.1.len⟩)
theorem rdRides : Rd enc Try.prog w base spare held 25 (slCells (α := Ride)) (SlG w 13 rideCells (RideAt w)) := Rd.slice Try.underlying25 (by kernel_rfl) (by decide) rdRide
theorem ridesAt {s : SlA Ride} (h : SlG w 13 rideCells (RideAt w) s) : RidesAt w s.A s.l := ⟨h.rows, h.all, h.len⟩
theorem rdWear : Rd enc Try.prog w base spare held 24 (fun p : SlA Int × SlA Int => [.slice p.1.A p.1.l.length p.1.cap, .slice p.2.A p.2.l.length p.2.cap]) (fun p => WearAt w p.1.A p.2.A p.1.l p.2.l) :=
  (Rd.struct (tot := 2) Try.underlying24 (by kernel_rfl) (RdF.cons (sz := 1) rdInts rfl rfl (by kernel_rfl) (RdF.cons (sz := 1) rdInts rfl rfl (by kernel_rfl) RdF.nil))).conv (fun p => (p.1, p.2.1)) (fun _ => rfl) (fun _ h => ⟨h.1.rows.ones, h.2.1.rows.ones, h.1.len, h.2.1.len⟩)
structure UseG where
  h : SlA Int
  r : SlA Int
  R : SlA Ride
  bike : Int
  kind : Int
def useCells (u : UseG) : List Value := useL u.h.A u.r.A u.R.A u.h.l.length u.h.cap u.r.l.length u.r.cap u.R.l.length u.R.cap u.bike u.kind
structure UseAt (w : World) (u : UseG) : Prop where
  wear : WearAt w u.h.A u.r.A u.h.l u.r.l
  rides : SlG w 13 rideCells (RideAt w) u.R
theorem rdUse : Rd enc Try.prog w base spare held 27 useCells (UseAt w) :=
  (Rd.struct (tot := 5) Try.underlying27 (by kernel_rfl) (RdF.cons (sz := 2) rdWear rfl rfl (by kernel_rfl) (RdF.cons (sz := 1) rdRides rfl rfl (by kernel_rfl) (RdF.cons (sz := 1) rdInt rfl rfl (by kernel_rfl) (RdF.cons (sz := 1) rdInt rfl rfl (by kernel_rfl) RdF.nil))))).conv
    (fun p => ⟨p.1.1, p.1.2, p.2.1, p.2.2.1, p.2.2.2.1⟩) (fun _ => rfl) (fun _ h => ⟨h.1, h.2.1⟩)
/-- an array of two elements of one cell -/
theorem Rd.array2 {P : Program} {t e : TypeId} {α : Type} {f : α → Value} {G : α → Prop} (ht : P.underlying t = some (.array 2 e)) (hs : P.cellsOf e = 1) (hc : P.cellsOf t = 2) (he : Rd enc P w base spare held e (fun a => [f a]) G) :
    Rd enc P w base spare held t (fun p : α × α => [f p.1, f p.2]) (fun p => G p.1 ∧ G p.2) := ⟨fun fuel cs x h => by
  obtain ⟨xs, m, _, _, hl, hxl, hx⟩ := DataW.trod_array ht h
  rw [hs] at hx
  have hl3 : cs.length = 2 := by rw [hl, hc]
  match cs, hl3 with
  | [c0, c1], _ =>
    have g : ∀ i (hi : i < 2), ∃ a, (([c0, c1] : List Value).drop (i * 1)).take 1 = [f a] ∧ G a := fun i hi => by
      have h3 := hx i hi
      rw [List.getElem?_eq_getElem (by omega)] at h3
      exact he.out _ _ _ h3
    obtain ⟨a0, h0, g0⟩ := g 0 (by omega)
    obtain ⟨a1, h1, g1⟩ := g 1 (by omega)
    simp at h0 h1
    exact ⟨(a0, a1), by simp [h0, h1], g0, g1⟩⟩
theorem rdAt3 : Rd enc Try.prog w base spare held 42 (fun p : Int × Int × Int => [I p.1, I p.2.1, I p.2.2]) (fun p => (Lit.int .i64 p.1).wf = true ∧ (Lit.int .i64 p.2.1).wf = true ∧ (Lit.int .i64 p.2.2).wf = true) := Rd.array3 Try.underlying42 (by kernel_rfl) (by kernel_rfl) rdInt
theorem rdAt2 : Rd enc Try.prog w base spare held 51 (fun p : Int × Int => [I p.1, I p.2]) (fun p => (Lit.int .i64 p.1).wf = true ∧ (Lit.int .i64 p.2).wf = true) := Rd.array2 Try.underlying51 (by kernel_rfl) (by kernel_rfl) rdInt
end
end Go.Proofs.Ytdlfadbdchjinaa
