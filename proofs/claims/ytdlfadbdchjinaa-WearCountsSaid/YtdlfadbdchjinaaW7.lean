/-
  Walks: the reference's check of a ride, last part.
-/
import Derived.Test.YtdlfadbdchjinaaW6
set_option linter.all false
namespace Go.Proofs.Ytdlfadbdchjinaa
open Go Go.W Go.RowKit

def ascB (opn : Bool) (el : Int) : Int → List Int → Bool
  | _, [] => true
  | last, x :: l => (!decide (x < last) && (opn || !decide (el < x))) && ascB opn el x l
theorem both_cons (x : Pau) (l : List Pau) : bothL (x :: l) = x.fl :: x.tl :: bothL l := rfl
theorem asc_le {el : Int} : ∀ {m : List Int} {a : Int}, m ≠ [] → ascB false el a m = true → a ≤ el
  | [], _, h, _ => absurd rfl h
  | x :: m, a, _, h => by rw [ascB] at h; grind
theorem pau_closed (el : Int) : ∀ (l : List Pau) (x : Pau) (last : Int), pauB false el last (x :: l) = ascB false el last (bothL (x :: l))
  | [], x, last => by
    rw [pauB, pauB, both_cons, ascB, ascB, show bothL [] = [] from rfl, ascB]
    grind
  | y :: l, x, last => by
    have ih := pau_closed el l y x.tl
    rw [pauB, ih, both_cons x (y :: l), ascB, ascB]
    have h1 : ascB false el x.tl (bothL (y :: l)) = true → x.tl ≤ el := asc_le (by rw [both_cons]; simp)
    generalize ascB false el x.tl (bothL (y :: l)) = q at *
    grind
theorem marks_step (x y : Pau) (l : List Pau) : marksL true (x :: y :: l) = x.fl :: x.tl :: marksL true (y :: l) := by
  have e1 : bothL (x :: y :: l) = x.fl :: x.tl :: bothL (y :: l) := rfl
  have e2 : (bothL (x :: y :: l)).getLast? = (bothL (y :: l)).getLast? := by rw [e1, both_cons]; simp [List.getLast?_cons_cons]
  have e3 := bothL_len (y :: l)
  have e4 := bothL_len (x :: y :: l)
  simp only [List.length_cons] at e3 e4
  unfold marksL
  rw [e2]
  by_cases h : (bothL (y :: l)).getLast? = some 0
  · rw [if_pos (by simp [h]; omega), if_pos (by simp [h]; omega), e1]
    have : (x.fl :: x.tl :: bothL (y :: l)).length - 1 = ((bothL (y :: l)).length - 1) + 1 + 1 := by simp; omega
    rw [this, List.take_succ_cons, List.take_succ_cons]
  · rw [if_neg (by simp [h]), if_neg (by simp [h]), e1]
theorem pau_open (el : Int) : ∀ (l : List Pau) (x : Pau) (last : Int), pauB true el last (x :: l) = ascB true el last (marksL true (x :: l))
  | [], x, last => by
    have e : marksL true [x] = if x.tl = 0 then [x.fl] else [x.fl, x.tl] := by
      unfold marksL bothL
      by_cases h : x.tl = 0 <;> simp [h]
    rw [e]
    by_cases h : x.tl = 0
    · simp only [pauB, h, if_true, ascB, List.isEmpty_nil]; grind
    · simp only [pauB, h, if_false, ascB, List.isEmpty_nil]; grind
  | y :: l, x, last => by
    have ih := pau_open el l y x.tl
    rw [pauB, ih, marks_step, ascB, ascB]
    generalize ascB true el x.tl (marksL true (y :: l)) = q at *
    simp
theorem pau_asc (opn : Bool) (el sl : Int) (l : List Pau) : (l.isEmpty || pauB opn el sl l) = ascB opn el sl (marksL opn l) := by
  cases l with
  | nil => cases opn <;> rfl
  | cons x l =>
    cases opn with
    | true => rw [← pau_open]; rfl
    | false =>
      have e : marksL false (x :: l) = bothL (x :: l) := by unfold marksL; rw [if_neg (by simp)]
      rw [e, ← pau_closed]; rfl
end Go.Proofs.Ytdlfadbdchjinaa
