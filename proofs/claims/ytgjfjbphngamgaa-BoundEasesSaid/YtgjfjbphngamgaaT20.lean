/-
  Plain: plans, and what is wrong with them.
-/
import Derived.Test.YtgjfjbphngamgaaT9
import Derived.Test.YtgjfjbphngamgaaArg
set_option linter.all false
namespace Go.Proofs.Ytgjfjbphngamgaa
open Go Go.W Go.RowKit

open Classical in
theorem sum_count {α : Type} (x : α) (l : List α) : (l.map fun y => if y = x then 1 else 0).sum = List.count x l := by
  induction l with
  | nil => rfl
  | cons a l ih =>
    rw [List.map_cons, List.sum_cons, ih, List.count_cons]
    by_cases h : a = x <;> simp [h] <;> omega
open Classical in
theorem perm_by {α : Type} {l l' : List α} (h : ∀ f : α → Nat, (l.map f).sum = (l'.map f).sum) : l.Perm l' :=
  List.perm_iff_count.2 fun x => by rw [← sum_count, ← sum_count]; exact h _
section
variable {n : Int} {l : List Edg} {ts : List Truck} {ns : List Need} {hd : Int}
end
end Go.Proofs.Ytgjfjbphngamgaa

/-
  Walk: Feasible.
-/
set_option linter.all false
namespace Go.Proofs.Ytgjfjbphngamgaa
open Go Go.W Go.RowKit

theorem _root_.Go.W.OwnS.le {A : Option Addr} {cap n el sz : Nat} {xs : List Value} {Lo : List Blk} (h : OwnS A cap n xs el sz Lo) : n ≤ cap := by
  rcases h.form with ⟨_, q, _, _⟩ | ⟨_, _, _, _, q, _, _⟩ <;> omega
end Go.Proofs.Ytgjfjbphngamgaa
