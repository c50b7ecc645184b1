/-
  Two intervals compared; rides as cells.
-/
import Derived.Test.YtdlfadbdchjinaaFacts
import Derived.Test.YtdlfadbdchjinaaBase
import Derived.Test.YtdlfadbdchjinaaNest
import Derived.Test.YtdlfadbdchjinaaArg
import Derived.Test.YtdlfadbdchjinaaOwn
set_option linter.all false
namespace Go.Proofs.Ytdlfadbdchjinaa
open Go Go.W Go.RowKit

theorem intEq (d : Nat) (a b : Int) (w : World) : (Op.equalIn (d + 1) 3 (I a) (I b)).run Try.prog w = .ok (a == b) w := by
  rw [Op.equalIn]
  simp only [Sem.run_bind, Try.runUnderlying3, Result.andThen_ok]
  simp [Sem.run_pure]
theorem prog_run (w : World) : (program).run Try.prog w = .ok Try.prog w := rfl
theorem eqG46 : Try.prog.eqGuardType Try.prog.depth 46 = false := by kernel_rfl
theorem eqS46 (a b c d : Int) : ∀ w, (Op.equal 46 (.agg #[I a, I b]) (.agg #[I c, I d])).run Try.prog w = .ok (decide (a = c) && decide (b = d)) w := by
  intro w
  have hs : Try.prog.stoodInHeld 46 = false := by kernel_rfl
  unfold Op.equal Op.maxDepth
  rw [Op.equalIn]
  simp only [Sem.run_bind, Try.runUnderlying46, Result.andThen_ok, prog_run, hs]
  simp [part, Try.isAgg3, Sem.run_bind, Sem.run_pure, intEq]
  by_cases h1 : a = c <;> by_cases h2 : b = d <;> simp [h1, h2]
/-! ### rides -/
structure Leg where
  bike : Int
  fl : Int
  fh : Int
  tl : Int
  th : Int
def legCells (x : Leg) : List Value := [I x.bike, I x.fl, I x.fh, I x.tl, I x.th]
structure Pau where
  fl : Int
  fh : Int
  tl : Int
  th : Int
def pauCells (x : Pau) : List Value := [I x.fl, I x.fh, I x.tl, I x.th]
structure Ride where
  id : Int
  rider : Int
  sl : Int
  sh : Int
  el : Int
  eh : Int
  opn : Bool
  L : SlA Leg
  P : SlA Pau
  fw : Int
  fp : Int
  wh : Int
  pl : Int
def rideCells (r : Ride) : List Value := [I r.id, I r.rider, I r.sl, I r.sh, I r.el, I r.eh, Bo r.opn, .slice r.L.A r.L.l.length r.L.cap, .slice r.P.A r.P.l.length r.P.cap, I r.fw, I r.fp, I r.wh, I r.pl]
/-- what is known of a ride's memory -/
structure RideAt (w : World) (r : Ride) : Prop where
  legs : RowsAt 5 legCells w r.L.A r.L.l
  paus : RowsAt 4 pauCells w r.P.A r.P.l
  ll : r.L.l.length ≤ maxLen
  pl : r.P.l.length ≤ maxLen
theorem RideAt.below {w w' : World} {r : Ride} (h : RideAt w r) (hb : Below w.heap.size w w') : RideAt w' r := ⟨h.legs.below hb, h.paus.below hb, h.ll, h.pl⟩
theorem RideAt.sh {w0 w : World} {L : List Blk} {r : Ride} (h : RideAt w0 r) (H : SH w0 [] w L) : RideAt w r := h.below H.below
structure RidesAt (w : World) (A : Option Addr) (rs : List Ride) : Prop where
  rows : RowsAt 13 rideCells w A rs
  each : ∀ r ∈ rs, RideAt w r
  len : rs.length ≤ maxLen
theorem RidesAt.below {w w' : World} {A : Option Addr} {rs : List Ride} (h : RidesAt w A rs) (hb : Below w.heap.size w w') : RidesAt w' A rs := ⟨h.rows.below hb, fun r hr => (h.each r hr).below hb, h.len⟩
theorem RidesAt.sh {w0 w : World} {L : List Blk} {A : Option Addr} {rs : List Ride} (h : RidesAt w0 A rs) (H : SH w0 [] w L) : RidesAt w A rs := h.below H.below
/-! ### what a ride's check says -/
def spanB (lo hi : Int) : Bool := decide (0 ≤ lo) && decide (lo ≤ hi) && decide (hi ≤ 4294943999)
def rangedB (r : Ride) : Bool := decide (1 ≤ r.id) && decide (r.id ≤ 1000000) && decide (0 ≤ r.rider) && decide (r.rider < 128) && spanB r.sl r.sh && spanB r.el r.eh && (r.L.l.all fun x => spanB x.fl x.fh && spanB x.tl x.th) && (r.P.l.all fun x => spanB x.fl x.fh && spanB x.tl x.th)
/-- legs follow one another from a moment to another -/
def chainB : Int → Int → List Leg → Int → Int → Bool
  | a, b, [], c, d => decide (a = c) && decide (b = d)
  | a, b, x :: l, c, d => (decide (x.fl = a) && decide (x.fh = b)) && chainB x.tl x.th l c d
def joinedB (r : Ride) : Bool := decide (1 ≤ r.L.l.length) && decide (r.L.l.length ≤ 512) && decide (r.P.l.length ≤ 512) && chainB r.sl r.sh r.L.l r.el r.eh
end Go.Proofs.Ytdlfadbdchjinaa
