/-
  Plain geometry: points, cross and scalar products; when a point lies on a segment, when an edge folds back, when two edges meet.
-/
import Derived.Test.YtkfklebaeifdnaaBase
set_option linter.all false
namespace Go.Proofs.Ytkfklebaeifdnaa
open Go Go.W Go.RowKit

structure Pt where
  x : Int
  y : Int
def crs (a b c : Pt) : Int := (b.x - a.x) * (c.y - a.y) - (b.y - a.y) * (c.x - a.x)
def dotp (a b c : Pt) : Int := (b.x - a.x) * (c.x - a.x) + (b.y - a.y) * (c.y - a.y)
def sgn (n : Int) : Int := if 0 < n then 1 else if n < 0 then -1 else 0
theorem sq_nn (a : Int) : 0 ≤ a * a := by
  rcases Int.le_total 0 a with h | h
  · exact Int.mul_nonneg h h
  · exact Int.mul_nonneg_of_nonpos_of_nonpos h h
theorem sq_pos {a : Int} (h : a ≠ 0) : 0 < a * a := by
  rcases Int.lt_or_gt_of_ne h with h | h
  · exact Int.mul_pos_of_neg_of_neg h h
  · exact Int.mul_pos h h
theorem mul_cases (a b : Int) : a * b ≤ 0 ↔ (a ≤ 0 ∧ 0 ≤ b) ∨ (0 ≤ a ∧ b ≤ 0) := by
  constructor
  · intro h
    rcases Int.lt_or_le 0 a with h1 | h1
    · right
      refine ⟨by omega, ?_⟩
      rcases Int.lt_or_le 0 b with h2 | h2
      · have := Int.mul_pos h1 h2; omega
      · exact h2
    · rcases Int.lt_or_le a 0 with h3 | h3
      · left
        refine ⟨h1, ?_⟩
        rcases Int.lt_or_le b 0 with h2 | h2
        · have := Int.mul_pos_of_neg_of_neg h3 h2; omega
        · exact h2
      · have : a = 0 := by omega
        omega
  · rintro (⟨h1, h2⟩ | ⟨h1, h2⟩)
    · exact Int.mul_nonpos_of_nonpos_of_nonneg h1 h2
    · exact Int.mul_nonpos_of_nonneg_of_nonpos h1 h2
theorem vec1 {ux uy vx vy : Int} (h : ux * vy = uy * vx) : ux * vx + uy * vy ≤ 0 ↔ ux * vx ≤ 0 ∧ uy * vy ≤ 0 := by
  refine ⟨fun hs => ?_, fun hs => by omega⟩
  have key : (ux * vx) * (uy * vy) = (ux * vy) * (ux * vy) := by grind
  have hsq := sq_nn (ux * vy)
  generalize ux * vx = p at *
  generalize uy * vy = q at *
  by_cases hp : 0 < p
  · have hq : q < 0 := by omega
    have := Int.mul_pos hp (show 0 < -q by omega)
    rw [Int.mul_neg] at this; omega
  · by_cases hq : 0 < q
    · have hp : p < 0 := by omega
      have := Int.mul_pos hq (show 0 < -p by omega)
      rw [Int.mul_neg, Int.mul_comm] at this; omega
    · omega
theorem btw (a b c : Int) : (a - c) * (b - c) ≤ 0 ↔ (if b < a then b else a) ≤ c ∧ c ≤ (if a < b then b else a) := by
  rw [mul_cases]; split <;> split <;> omega
/-- a point lies on a segment -/
def hasB (a b c : Pt) : Bool := decide (crs a b c = 0) && decide (dotp c a b ≤ 0)
theorem on_has (a b c : Pt) : ((((decide (crs a b c = 0) && decide ((if b.x < a.x then b.x else a.x) ≤ c.x)) && decide (c.x ≤ (if a.x < b.x then b.x else a.x))) && decide ((if b.y < a.y then b.y else a.y) ≤ c.y)) && decide (c.y ≤ (if a.y < b.y then b.y else a.y))) = hasB a b c := by
  unfold hasB
  by_cases h : crs a b c = 0
  · have h1 : (a.x - c.x) * (b.y - c.y) = (a.y - c.y) * (b.x - c.x) := by unfold crs at h; grind
    have h2 := vec1 h1
    have h3 := btw a.x b.x c.x
    have h4 := btw a.y b.y c.y
    have h5 : dotp c a b = (a.x - c.x) * (b.x - c.x) + (a.y - c.y) * (b.y - c.y) := rfl
    rw [← h5] at h2
    simp only [h, decide_true, Bool.true_and]
    generalize (a.x - c.x) * (b.x - c.x) = p at *
    generalize (a.y - c.y) * (b.y - c.y) = q at *
    rw [Bool.eq_iff_iff]
    simp only [Bool.and_eq_true, decide_eq_true_eq]
    rw [h2, h3, h4, and_assoc, and_assoc]
  · simp [h]
theorem has_iff {a b c : Pt} : hasB a b c = true ↔ crs a b c = 0 ∧ dotp c a b ≤ 0 := by unfold hasB; simp
theorem has_swap (a b c : Pt) : hasB a b c = hasB b a c := by
  rw [Bool.eq_iff_iff, has_iff, has_iff]
  have h1 : crs b a c = - crs a b c := by unfold crs; grind
  have h2 : dotp c b a = dotp c a b := by unfold dotp; grind
  rw [h1, h2]; omega
/-- an edge goes back on the one before it: b is the common corner -/
def foldB (a b d : Pt) : Bool := decide (crs a b d = 0) && decide (0 < dotp b a d)
theorem ne_sq {a b : Pt} (h : a ≠ b) : 0 < (a.x - b.x) * (a.x - b.x) + (a.y - b.y) * (a.y - b.y) := by
  by_cases hx : a.x = b.x
  · have hy : a.y - b.y ≠ 0 := fun hy => h (by cases a; cases b; simp at hx hy ⊢; omega)
    have := sq_pos hy
    have := sq_nn (a.x - b.x)
    omega
  · have := sq_pos (show a.x - b.x ≠ 0 by omega)
    have := sq_nn (a.y - b.y)
    omega
theorem fold_on {a b d : Pt} (hab : a ≠ b) (hdb : d ≠ b) : foldB a b d = (hasB b a d || hasB b d a) := by
  unfold foldB
  rw [Bool.eq_iff_iff, Bool.or_eq_true, has_iff, has_iff]
  simp only [Bool.and_eq_true, decide_eq_true_eq]
  have e1 : crs b a d = - crs a b d := by unfold crs; grind
  have e2 : crs b d a = crs a b d := by unfold crs; grind
  have e3 : dotp d b a = ((d.x - b.x) * (d.x - b.x) + (d.y - b.y) * (d.y - b.y)) - dotp b a d := by unfold dotp; grind
  have e4 : dotp a b d = ((a.x - b.x) * (a.x - b.x) + (a.y - b.y) * (a.y - b.y)) - dotp b a d := by unfold dotp; grind
  have p1 := ne_sq hab
  have p2 := ne_sq hdb
  have key : crs a b d = 0 → dotp b a d * dotp b a d = ((a.x - b.x) * (a.x - b.x) + (a.y - b.y) * (a.y - b.y)) * ((d.x - b.x) * (d.x - b.x) + (d.y - b.y) * (d.y - b.y)) := fun h => by
    have h1 : (a.x - b.x) * (d.y - b.y) = (a.y - b.y) * (d.x - b.x) := by unfold crs at h; grind
    unfold dotp
    generalize a.x - b.x = ux at *
    generalize a.y - b.y = uy at *
    generalize d.x - b.x = vx at *
    generalize d.y - b.y = vy at *
    have : (ux * vy) * (ux * vy) = (ux * vy) * (uy * vx) := by rw [← h1]
    grind
  rw [e1, e2, e3, e4]
  generalize (a.x - b.x) * (a.x - b.x) + (a.y - b.y) * (a.y - b.y) = U at *
  generalize (d.x - b.x) * (d.x - b.x) + (d.y - b.y) * (d.y - b.y) = V at *
  generalize dotp b a d = s at *
  generalize crs a b d = z at *
  constructor
  · rintro ⟨h0, hs⟩
    have := key h0
    by_cases hV : V ≤ s
    · left; omega
    · right
      refine ⟨h0, ?_⟩
      by_cases hU : U ≤ s
      · omega
      · exfalso
        have h1 : s * s < U * s := Int.mul_lt_mul_of_pos_right (by omega) hs
        have h2 : U * s < U * V := Int.mul_lt_mul_of_pos_left (by omega) p1
        omega
  · rintro (⟨h0, hs⟩ | ⟨h0, hs⟩) <;> omega
/-- two edges that need not be successive -/
def meetP (a b c d : Pt) : Bool := (hasB a b c || hasB a b d || hasB c d a || hasB c d b) || (!decide (sgn (crs a b c) = sgn (crs a b d)) && !decide (sgn (crs c d a) = sgn (crs c d b)))
def meetR (a b c d : Pt) : Bool := (hasB a b c || hasB a b d || hasB c d a || hasB c d b) || (decide (sgn (crs a b c) * sgn (crs a b d) < 0) && decide (sgn (crs c d a) * sgn (crs c d b) < 0))
theorem sgn_mul (p q : Int) : sgn p * sgn q < 0 ↔ (p < 0 ∧ 0 < q) ∨ (0 < p ∧ q < 0) := by
  unfold sgn; split <;> split <;> (try split) <;> (try split) <;> simp <;> omega
theorem sgn_eq (p q : Int) : sgn p = sgn q ↔ (0 < p ∧ 0 < q) ∨ (p < 0 ∧ q < 0) ∨ (p = 0 ∧ q = 0) := by
  unfold sgn; split <;> split <;> (try split) <;> (try split) <;> simp <;> omega
/-- c lies on the line of a, b, but not between them: a and b lie on the same side of every line through c -/
theorem same_side {a b c d : Pt} (h0 : crs a b c = 0) (hd : 0 < dotp c a b) : sgn (crs c d a) = sgn (crs c d b) := by
  have h1 : (a.x - c.x) * (b.y - c.y) = (a.y - c.y) * (b.x - c.x) := by unfold crs at h0; grind
  have hU : 0 < (a.x - c.x) * (a.x - c.x) + (a.y - c.y) * (a.y - c.y) := by
    refine ne_sq fun he => ?_
    subst he; simp [dotp] at hd
  have key : ((a.x - c.x) * (a.x - c.x) + (a.y - c.y) * (a.y - c.y)) * crs c d b = dotp c a b * crs c d a := by
    unfold crs dotp
    generalize a.x - c.x = ux at *
    generalize a.y - c.y = uy at *
    generalize b.x - c.x = vx at *
    generalize b.y - c.y = vy at *
    generalize d.x - c.x = wx at *
    generalize d.y - c.y = wy at *
    grind
  generalize (a.x - c.x) * (a.x - c.x) + (a.y - c.y) * (a.y - c.y) = U at *
  generalize dotp c a b = s at *
  generalize crs c d a = p at *
  generalize crs c d b = q at *
  rw [sgn_eq]
  rcases Int.lt_trichotomy p 0 with hp | hp | hp
  · have h2 : s * p < 0 := Int.mul_neg_of_pos_of_neg hd hp
    rw [← key] at h2
    have : q < 0 := by
      rcases Int.lt_or_le q 0 with h | h
      · exact h
      · have := Int.mul_nonneg (Int.le_of_lt hU) h; omega
    omega
  · subst hp
    rw [Int.mul_zero] at key
    have : q = 0 := by
      rcases Int.mul_eq_zero.1 key with h | h
      · omega
      · exact h
    omega
  · have h2 : 0 < s * p := Int.mul_pos hd hp
    rw [← key] at h2
    have : 0 < q := by
      rcases Int.lt_or_le 0 q with h | h
      · exact h
      · have := Int.mul_nonpos_of_nonneg_of_nonpos (Int.le_of_lt hU) h; omega
    omega
theorem meet_eq (a b c d : Pt) : meetP a b c d = meetR a b c d := by
  unfold meetP meetR
  cases hh : (hasB a b c || hasB a b d || hasB c d a || hasB c d b) with
  | true => rfl
  | false =>
    simp only [Bool.or_eq_false_iff] at hh
    obtain ⟨⟨⟨h1, h2⟩, h3⟩, h4⟩ := hh
    have nh : ∀ {p q r : Pt}, hasB p q r = false → crs p q r = 0 → 0 < dotp r p q := fun {p q r} hf h0 => by
      rcases Int.lt_or_le 0 (dotp r p q) with h | h
      · exact h
      · rw [has_iff.2 ⟨h0, h⟩] at hf; cases hf
    have r1 : crs d c a = - crs c d a := by unfold crs; grind
    have r2 : crs d c b = - crs c d b := by unfold crs; grind
    have r3 : crs b a c = - crs a b c := by unfold crs; grind
    have r4 : crs b a d = - crs a b d := by unfold crs; grind
    have k1 : crs a b c = 0 → sgn (crs c d a) = sgn (crs c d b) := fun h => same_side h (nh h1 h)
    have k2 : crs a b d = 0 → sgn (crs c d a) = sgn (crs c d b) := fun h => by
      have := same_side (d := c) h (nh h2 h)
      rw [r1, r2, sgn_eq] at this; rw [sgn_eq]; omega
    have k3 : crs c d a = 0 → sgn (crs a b c) = sgn (crs a b d) := fun h => same_side h (nh h3 h)
    have k4 : crs c d b = 0 → sgn (crs a b c) = sgn (crs a b d) := fun h => by
      have := same_side (d := a) h (nh h4 h)
      rw [r3, r4, sgn_eq] at this; rw [sgn_eq]; omega
    rw [Bool.false_or, Bool.false_or, Bool.eq_iff_iff]
    simp only [Bool.and_eq_true, Bool.not_eq_true', decide_eq_false_iff_not, decide_eq_true_eq, sgn_mul]
    rw [sgn_eq] at k1 k2 k3 k4
    rw [sgn_eq, sgn_eq]
    omega
end Go.Proofs.Ytkfklebaeifdnaa
