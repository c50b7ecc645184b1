/-
  Plain: the chapter's example.
-/
import Derived.Test.YtgjfjbphngamgaaT20
set_option linter.all false
namespace Go.Proofs.Ytgjfjbphngamgaa
open Go Go.W Go.RowKit

def tab3 (a b c : Int) (v : Nat) : Int := if v = 0 then a else if v = 1 then b else c
end Go.Proofs.Ytgjfjbphngamgaa

/-
  Walks: the laws TruckChecks, TruckWalks, TruckFeasible.
-/
set_option linter.all false
namespace Go.Proofs.Ytgjfjbphngamgaa
open Go Go.W Go.RowKit

theorem ret_true {v : Value} {b : Bool} (h : v = .bool b) (hb : b = true) : Ending.returned v = .returned (.bool true) := by rw [h, hb]
/-- a night, as it lies in memory -/
structure NightAt (w : World) (A B C : Option Addr) (l : List Edg) (ts : List Truck) (ns : List Need) (cc : Nat) : Prop where
  l : EdgsAt w A l
  t : RowsAt 4 truckCells w B ts
  n : RowsAt 2 needCells w C ns
  c : ns.length ≤ cc
theorem NightAt.below {w w' : World} {A B C : Option Addr} {l : List Edg} {ts : List Truck} {ns : List Need} {cc : Nat} (h : NightAt w A B C l ts ns cc) (hb : Below w.heap.size w w') : NightAt w' A B C l ts ns cc := ⟨h.l.below hb, h.t.below hb, h.n.below hb, h.c⟩
theorem NightAt.sh {w w' : World} {A B C : Option Addr} {l : List Edg} {ts : List Truck} {ns : List Need} {cc : Nat} {L : List Blk} (h : NightAt w A B C l ts ns cc) (H : SH w [] w' L) : NightAt w' A B C l ts ns cc := h.below H.below

theorem fewB_ok {a b c : Nat} (h : fewB a b c = true) : a ≤ 600 ∧ b ≤ 20 ∧ c ≤ 30 := by
  unfold fewB at h
  simp only [Bool.and_eq_true, decide_eq_true_eq] at h
  omega
end Go.Proofs.Ytgjfjbphngamgaa

/-
  The law TruckBegins.
-/
set_option linter.all false
namespace Go.Proofs.Ytgjfjbphngamgaa
open Go Go.W Go.RowKit

theorem roadT_nn {n s v : Nat} {l : List Edg} {K : Nat → Bool} {D : Nat → Int} (hok : RoadOk n l) (hR : RD l n s K D) (hv : v < n) (h : 0 ≤ roadT n l s v) : K v = true ∧ roadT n l s v = D v := by
  rw [roadT_eq hok hR hv] at h ⊢
  cases hk : K v with
  | true => simp
  | false => rw [hk] at h; simp at h
section
variable {m q : Nat} {l : List Edg} {ts : List Truck} {ns : List Need} {hd : Int} {rn : List Int} {t : Truck}
end
end Go.Proofs.Ytgjfjbphngamgaa
