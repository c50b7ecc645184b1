/-
  Lists that are being written, element by element.
-/
import Derived.Test.YtmkgfgnpgoegcaaMore
set_option linter.all false
namespace Go.W
open Go.RowKit
theorem Ev.neqA {P : Program} {e : Env} {w : World} {ty t : TypeId} {x y : Operand} {t' : TypeId} {vs us : Array Value} {q : Bool} (hg : P.eqGuardType P.depth t = false) (hr : ∀ w, (Op.equal t (.agg vs) (.agg us)).run P w = .ok q w) (hx : ev e x = .agg vs) (hy : ev e y = .agg us) : Ev P e w ty (.binOp .neq t x y t') (.bool (!q)) :=
  ⟨fun w' _ o ho _ => by
    have hp : (program : Sem Program).run P w' = .ok P w' := rfl
    unfold execOp; rw [ho]; simp [hx, hy, eqGuard, binOp, hr, hp, hg]⟩
/-- the first j elements of l, the others of m -/
def mixL {α : Type} (l m : List α) (j : Nat) : List α := l.take j ++ m.drop j
theorem mixL_length {α : Type} {l m : List α} {j : Nat} (h : l.length = m.length) (hj : j ≤ l.length) : (mixL l m j).length = l.length := by simp [mixL]; omega
theorem mixL_zero {α : Type} (l m : List α) : mixL l m 0 = m := by simp [mixL]
theorem mixL_all {α : Type} {l m : List α} (h : l.length = m.length) : mixL l m l.length = l := by
  unfold mixL
  rw [List.take_length, List.drop_eq_nil_of_le (by omega), List.append_nil]
theorem mixL_get {α : Type} {l m : List α} {j : Nat} (h : l.length = m.length) (hj : j < l.length) : (mixL l m j)[j]? = m[j]? := by
  have e1 : (l.take j).length = j := by simp; omega
  unfold mixL
  rw [List.getElem?_append_right (by omega), e1]
  simp
theorem mixL_set {α : Type} {l m : List α} {j : Nat} (h : l.length = m.length) (hj : j < l.length) : (mixL l m j).set j (l[j]) = mixL l m (j + 1) := by
  have e1 : (l.take j).length = j := by simp; omega
  unfold mixL
  rw [List.set_append_right _ _ (by omega), e1, Nat.sub_self, List.drop_eq_getElem_cons (show j < m.length by omega), List.set_cons_zero, ← List.take_append_getElem hj, List.append_assoc]
  rfl
end Go.W
