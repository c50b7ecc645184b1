/-
  Plain: the arcs of a transport, one after the other.
-/
import Derived.Test.YtgjfjbphngamgaaBM1
set_option linter.all false
namespace Go.Proofs.Ytgjfjbphngamgaa.Flo
open Go Go.W

theorem row_app (f : Int) : ∀ (r : List Int) (g x : Int), rowArcs f g (r ++ [x]) = rowArcs f g r ++ if 0 ≤ x then [⟨f, g + r.length, 65536, x⟩] else []
  | [], g, x => by
    simp only [List.nil_append, rowArcs, List.length_nil]
    split <;> simp
  | y :: r, g, x => by
    have ih := row_app f r (g + 1) x
    simp only [List.cons_append, rowArcs, List.length_cons]
    rw [ih, show g + 1 + (r.length : Int) = g + ((r.length + 1 : Nat) : Int) by omega]
    split <;> simp
theorem row_take {f g : Int} {r : List Int} {k : Nat} (h : k < r.length) : rowArcs f g (r.take (k + 1)) = rowArcs f g (r.take k) ++ if 0 ≤ r[k] then [⟨f, g + k, 65536, r[k]⟩] else [] := by
  rw [List.take_succ_eq_append_getElem h, row_app, show ((r.take k).length : Int) = k by simp; omega]
theorem row_len (f : Int) : ∀ (r : List Int) (g : Int), (rowArcs f g r).length ≤ r.length
  | [], _ => Nat.le_refl _
  | x :: r, g => by
    have := row_len f r (g + 1)
    unfold rowArcs
    split <;> simp <;> omega
theorem col_app (g : Int) : ∀ (C : List Int) (tm : List (List Int)) (i c : Int) (r : List Int), C.length = tm.length → colArcs g i (C ++ [c]) (tm ++ [r]) = colArcs g i C tm ++ (⟨0, i + C.length, c, 0⟩ :: rowArcs (i + C.length) g r)
  | [], [], i, c, r, _ => by simp [colArcs]
  | [], _ :: _, _, _, _, h => by simp at h
  | _ :: _, [], _, _, _, h => by simp at h
  | d :: C, q :: tm, i, c, r, h => by
    have ih := col_app g C tm (i + 1) c r (by simpa using h)
    simp only [List.cons_append, colArcs, List.length_cons]
    rw [ih, show i + 1 + (C.length : Int) = i + ((C.length + 1 : Nat) : Int) by omega]
    simp
theorem col_take {g i : Int} {C : List Int} {tm : List (List Int)} {j : Nat} (hl : C.length = tm.length) (h : j < C.length) :
    colArcs g i (C.take (j + 1)) (tm.take (j + 1)) = colArcs g i (C.take j) (tm.take j) ++ (⟨0, i + j, C[j], 0⟩ :: rowArcs (i + j) g (tm[j]'(by omega))) := by
  rw [List.take_succ_eq_append_getElem h, List.take_succ_eq_append_getElem (show j < tm.length by omega), col_app _ _ _ _ _ _ (by simp; omega), show ((C.take j).length : Int) = j by simp; omega]
theorem br_app (last : Int) : ∀ (D : List Int) (g d : Int), brArcs last g (D ++ [d]) = brArcs last g D ++ [⟨g + D.length, last, d, 0⟩]
  | [], g, d => by simp [brArcs]
  | e :: D, g, d => by
    have ih := br_app last D (g + 1) d
    simp only [List.cons_append, brArcs, List.length_cons]
    rw [ih, show g + 1 + (D.length : Int) = g + ((D.length + 1 : Nat) : Int) by omega]
theorem br_take {last g : Int} {D : List Int} {k : Nat} (h : k < D.length) : brArcs last g (D.take (k + 1)) = brArcs last g (D.take k) ++ [⟨g + k, last, D[k], 0⟩] := by
  rw [List.take_succ_eq_append_getElem h, br_app, show ((D.take k).length : Int) = k by simp; omega]
theorem br_len (last : Int) : ∀ (D : List Int) (g : Int), (brArcs last g D).length = D.length
  | [], _ => rfl
  | d :: D, g => by simp [brArcs, br_len last D (g + 1)]
theorem col_len {K : Nat} (g : Int) : ∀ (C : List Int) (tm : List (List Int)) (i : Int), (∀ r ∈ tm, r.length ≤ K) → (colArcs g i C tm).length ≤ C.length * (K + 1)
  | [], _, _, _ => by simp [colArcs]
  | _ :: _, [], _, _ => by simp [colArcs]
  | c :: C, r :: tm, i, h => by
    have h1 := row_len i r g
    have h2 := h r (by simp)
    have h3 := col_len g C tm (i + 1) fun q hq => h q (by simp [hq])
    simp only [colArcs, List.length_cons, List.length_append, Nat.succ_mul]
    omega
end Go.Proofs.Ytgjfjbphngamgaa.Flo
