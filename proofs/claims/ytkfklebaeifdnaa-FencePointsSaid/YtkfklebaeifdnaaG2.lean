/-
  Plain: a segment that meets no edge of a polygon does not change on which side of it one is; a disc that is covered, or not touched, is not met by edges.
-/
import Derived.Test.YtkfklebaeifdnaaG1
set_option linter.all false
namespace Go.Proofs.Ytkfklebaeifdnaa
open Go Go.W Go.RowKit

theorem same_sign {x y : Int} (h : 0 < x * y) : (x < 0 ∧ y < 0) ∨ (0 < x ∧ 0 < y) := by
  have := mul_cases x y
  omega
theorem col0 {ux uy vx vy : Int} (h : ux * vy = uy * vx) (hd : 0 < ux * vx + uy * vy) : (uy < 0 ∧ vy < 0) ∨ (0 < uy ∧ 0 < vy) ∨ (uy = 0 ∧ vy = 0 ∧ ((ux < 0 ∧ vx < 0) ∨ (0 < ux ∧ 0 < vx))) := by
  by_cases hu : uy = 0
  · subst hu
    rw [Int.zero_mul] at h hd
    rcases Int.mul_eq_zero.1 h with h0 | h0
    · subst h0; rw [Int.zero_mul] at hd; omega
    · have := same_sign (x := ux) (y := vx) (by omega)
      omega
  · by_cases hv : vy = 0
    · subst hv
      rw [Int.mul_zero] at h hd
      rcases Int.mul_eq_zero.1 h.symm with h0 | h0
      · exact absurd h0 hu
      · subst h0; rw [Int.mul_zero] at hd; omega
    · by_cases hs : 0 < uy * vy
      · have := same_sign hs; omega
      · exfalso
        have hne : uy * vy ≠ 0 := fun h0 => by
          rcases Int.mul_eq_zero.1 h0 with h1 | h1
          · exact hu h1
          · exact hv h1
        have key : (ux * vx) * (uy * vy) = (ux * vy) * (ux * vy) := by
          have : (ux * vx) * (uy * vy) = (ux * vy) * (uy * vx) := by grind
          rw [this, ← h]
        have hq := sq_nn (ux * vy)
        have := Int.mul_neg_of_pos_of_neg (show 0 < ux * vx by omega) (show uy * vy < 0 by omega)
        omega
/-- on the line, but not on the segment -/
theorem col {p q a : Pt} (hn : hasB p q a = false) (h0 : crs p q a = 0) : (p.y < a.y ∧ q.y < a.y) ∨ (a.y < p.y ∧ a.y < q.y) ∨ (p.y = a.y ∧ q.y = a.y ∧ ((p.x < a.x ∧ q.x < a.x) ∨ (a.x < p.x ∧ a.x < q.x))) := by
  have hd : 0 < dotp a p q := by
    rcases Int.lt_or_le 0 (dotp a p q) with h | h
    · exact h
    · rw [has_iff.2 ⟨h0, h⟩] at hn; cases hn
  have h1 : (p.x - a.x) * (q.y - a.y) = (p.y - a.y) * (q.x - a.x) := by unfold crs at h0; grind
  unfold dotp at hd
  have := col0 h1 hd
  omega
theorem core_LM {A B P Q ay bY py qy : Int} (i1 : P * (qy - ay) - Q * (py - ay) + A * (bY - ay) = 0) (i2 : P * (qy - bY) - Q * (py - bY) + B * (bY - ay) = 0) (h1 : py ≤ ay) (h2 : ay < qy) (h3 : qy ≤ bY)
    (n5 : ¬ (((A < 0 ∧ 0 < B) ∨ (0 < A ∧ B < 0)) ∧ ((P < 0 ∧ 0 < Q) ∨ (0 < P ∧ Q < 0)))) (hA : 0 < A) (hQ : 0 < Q) : False := by
  have a1 := Int.mul_pos hA (show 0 < bY - ay by omega)
  have q1 := Int.mul_nonpos_of_nonneg_of_nonpos (show 0 ≤ Q by omega) (show py - ay ≤ 0 by omega)
  have hP : P < 0 := by
    rcases Int.lt_or_le P 0 with h | h
    · exact h
    · have := Int.mul_nonneg h (show 0 ≤ qy - ay by omega); omega
  have hB : 0 ≤ B := by omega
  have p2 := Int.mul_nonneg_of_nonpos_of_nonpos (show P ≤ 0 by omega) (show qy - bY ≤ 0 by omega)
  have q2 := Int.mul_neg_of_pos_of_neg hQ (show py - bY < 0 by omega)
  have b2 := Int.mul_nonneg hB (show 0 ≤ bY - ay by omega)
  omega
theorem core_MU {A B P Q ay bY py qy : Int} (i1 : P * (qy - ay) - Q * (py - ay) + A * (bY - ay) = 0) (i2 : P * (qy - bY) - Q * (py - bY) + B * (bY - ay) = 0) (h1 : ay < py) (h2 : py ≤ bY) (h3 : bY < qy)
    (n5 : ¬ (((A < 0 ∧ 0 < B) ∨ (0 < A ∧ B < 0)) ∧ ((P < 0 ∧ 0 < Q) ∨ (0 < P ∧ Q < 0)))) (hB : 0 < B) (hP : 0 < P) : False := by
  have p2 := Int.mul_pos hP (show 0 < qy - bY by omega)
  have b2 := Int.mul_pos hB (show 0 < bY - ay by omega)
  have hQ : Q < 0 := by
    rcases Int.lt_or_le Q 0 with h | h
    · exact h
    · have := Int.mul_nonpos_of_nonneg_of_nonpos h (show py - bY ≤ 0 by omega); omega
  have hA : 0 ≤ A := by omega
  have p1 := Int.mul_pos hP (show 0 < qy - ay by omega)
  have q1 := Int.mul_neg_of_neg_of_pos hQ (show 0 < py - ay by omega)
  have a1 := Int.mul_nonneg hA (show 0 ≤ bY - ay by omega)
  omega
theorem core_LU {A B P Q ay bY py qy : Int} (i0 : A + P = B + Q) (i1 : P * (qy - ay) - Q * (py - ay) + A * (bY - ay) = 0) (i2 : P * (qy - bY) - Q * (py - bY) + B * (bY - ay) = 0) (h1 : py ≤ ay) (h2 : ay ≤ bY) (h3 : bY < qy)
    (n5 : ¬ (((A < 0 ∧ 0 < B) ∨ (0 < A ∧ B < 0)) ∧ ((P < 0 ∧ 0 < Q) ∨ (0 < P ∧ Q < 0)))) (hD : P = 0 → py = ay → bY = ay → False) (hA : 0 < A) (hB : B < 0) : False := by
  rcases Int.lt_or_le P 0 with hP | hP
  · have hQ : Q ≤ 0 := by omega
    have p2 := Int.mul_neg_of_neg_of_pos hP (show 0 < qy - bY by omega)
    have q2 := Int.mul_nonneg_of_nonpos_of_nonpos hQ (show py - bY ≤ 0 by omega)
    have b2 := Int.mul_nonpos_of_nonpos_of_nonneg (show B ≤ 0 by omega) (show 0 ≤ bY - ay by omega)
    omega
  · have hQ : 0 < Q := by omega
    have p1 := Int.mul_nonneg hP (show 0 ≤ qy - ay by omega)
    have q1 := Int.mul_nonpos_of_nonneg_of_nonpos (show 0 ≤ Q by omega) (show py - ay ≤ 0 by omega)
    have a1 := Int.mul_nonneg (show 0 ≤ A by omega) (show 0 ≤ bY - ay by omega)
    refine hD ?_ ?_ ?_
    · rcases Int.mul_eq_zero.1 (show P * (qy - ay) = 0 by omega) with h | h
      · exact h
      · omega
    · rcases Int.mul_eq_zero.1 (show Q * (py - ay) = 0 by omega) with h | h <;> omega
    · rcases Int.mul_eq_zero.1 (show A * (bY - ay) = 0 by omega) with h | h <;> omega
theorem core_MM {A B P Q ay bY py qy : Int} (i0 : A + P = B + Q) (i1 : P * (qy - ay) - Q * (py - ay) + A * (bY - ay) = 0) (i2 : P * (qy - bY) - Q * (py - bY) + B * (bY - ay) = 0) (h1 : ay < py) (h2 : py ≤ qy) (h3 : qy ≤ bY)
    (n5 : ¬ (((A < 0 ∧ 0 < B) ∨ (0 < A ∧ B < 0)) ∧ ((P < 0 ∧ 0 < Q) ∨ (0 < P ∧ Q < 0)))) (hD : B = 0 → py = bY → qy = bY → False) (hP : P < 0) (hQ : 0 < Q) : False := by
  rcases Int.lt_or_le B 0 with hB | hB
  · have hA : A ≤ 0 := by omega
    have p1 := Int.mul_neg_of_neg_of_pos hP (show 0 < qy - ay by omega)
    have q1 := Int.mul_pos hQ (show 0 < py - ay by omega)
    have a1 := Int.mul_nonpos_of_nonpos_of_nonneg hA (show 0 ≤ bY - ay by omega)
    omega
  · have p2 := Int.mul_nonneg_of_nonpos_of_nonpos (show P ≤ 0 by omega) (show qy - bY ≤ 0 by omega)
    have q2 := Int.mul_nonpos_of_nonneg_of_nonpos (show 0 ≤ Q by omega) (show py - bY ≤ 0 by omega)
    have b2 := Int.mul_nonneg hB (show 0 ≤ bY - ay by omega)
    refine hD ?_ ?_ ?_
    · rcases Int.mul_eq_zero.1 (show B * (bY - ay) = 0 by omega) with h | h
      · exact h
      · omega
    · rcases Int.mul_eq_zero.1 (show Q * (py - bY) = 0 by omega) with h | h <;> omega
    · rcases Int.mul_eq_zero.1 (show P * (qy - bY) = 0 by omega) with h | h <;> omega
theorem flip_swap {p q c : Pt} (hn : hasB p q c = false) : flipB ⟨q, p⟩ c = flipB ⟨p, q⟩ c := by
  have hc := col hn
  have e : crs q p c = - crs p q c := by unfold crs; grind
  unfold flipB
  simp only [e]
  generalize crs p q c = z at *
  rw [Bool.eq_iff_iff]
  simp only [Bool.and_eq_true, Bool.not_eq_true', beq_eq_false_iff_ne, ne_eq, beq_iff_eq, decide_eq_decide]
  omega
/-- right of the segment from a to b, at its height -/
def inR (a b p : Pt) : Bool := decide (a.y < p.y) && decide (p.y ≤ b.y) && decide (crs a b p < 0)
set_option maxHeartbeats 1000000 in
theorem par1 {a b p q : Pt} (hab : a.y ≤ b.y) (hpq : p.y ≤ q.y) (hm : meetR p q a b = false) : xor (flipB ⟨p, q⟩ a) (flipB ⟨p, q⟩ b) = xor (inR a b p) (inR a b q) := by
  unfold meetR at hm
  simp only [Bool.or_eq_false_iff] at hm
  obtain ⟨⟨⟨⟨n1, n2⟩, n3⟩, n4⟩, n5⟩ := hm
  replace n5 : ¬ (((crs p q a < 0 ∧ 0 < crs p q b) ∨ (0 < crs p q a ∧ crs p q b < 0)) ∧ ((crs a b p < 0 ∧ 0 < crs a b q) ∨ (0 < crs a b p ∧ crs a b q < 0))) := by
    rw [← sgn_mul, ← sgn_mul]; simpa using n5
  replace n1 := col n1
  replace n2 := col n2
  replace n3 := col n3
  replace n4 := col n4
  have i0 : crs p q a + crs a b p = crs p q b + crs a b q := by unfold crs; grind
  have i1 : crs a b p * (q.y - a.y) - crs a b q * (p.y - a.y) + crs p q a * (b.y - a.y) = 0 := by unfold crs; grind
  have i2 : crs a b p * (q.y - b.y) - crs a b q * (p.y - b.y) + crs p q b * (b.y - a.y) = 0 := by unfold crs; grind
  have f1 : p.y = a.y → crs p q a = (q.y - p.y) * (p.x - a.x) := fun h => by unfold crs; rw [h]; grind
  have f2 : p.y = b.y → crs p q b = (q.y - p.y) * (p.x - b.x) := fun h => by unfold crs; rw [h]; grind
  have f3 : p.y = b.y → crs a b p = (b.y - a.y) * (b.x - p.x) := fun h => by unfold crs; rw [h]; grind
  have f4 : q.y = b.y → crs a b q = (b.y - a.y) * (b.x - q.x) := fun h => by unfold crs; rw [h]; grind
  unfold flipB inR
  simp only
  generalize crs p q a = A at *
  generalize crs p q b = B at *
  generalize crs a b p = P at *
  generalize crs a b q = Q at *
  have i0' : -A + -P = -B + -Q := by omega
  have i1' : -P * (q.y - a.y) - -Q * (p.y - a.y) + -A * (b.y - a.y) = 0 := by rw [Int.neg_mul, Int.neg_mul, Int.neg_mul]; omega
  have i2' : -P * (q.y - b.y) - -Q * (p.y - b.y) + -B * (b.y - a.y) = 0 := by rw [Int.neg_mul, Int.neg_mul, Int.neg_mul]; omega
  have n5' : ¬ (((-A < 0 ∧ 0 < -B) ∨ (0 < -A ∧ -B < 0)) ∧ ((-P < 0 ∧ 0 < -Q) ∨ (0 < -P ∧ -Q < 0))) := by omega
  have dLU : P = 0 → p.y = a.y → b.y = a.y → b.y < q.y → (0 < A ↔ 0 < B) := fun h1 h2 h3 h4 => by
    have n3 := n3 h1
    rw [f1 h2, f2 (by omega)]
    have hw : 0 < q.y - p.y := by omega
    have hx : (0 < p.x - a.x ∧ 0 < p.x - b.x) ∨ (p.x - a.x < 0 ∧ p.x - b.x < 0) := by omega
    rcases hx with ⟨h5, h6⟩ | ⟨h5, h6⟩
    · have := Int.mul_pos hw h5; have := Int.mul_pos hw h6; omega
    · have := Int.mul_neg_of_pos_of_neg hw h5; have := Int.mul_neg_of_pos_of_neg hw h6; omega
  have dMM : B = 0 → p.y = b.y → q.y = b.y → a.y < b.y → (P < 0 ↔ Q < 0) := fun h1 h2 h3 h4 => by
    have n2 := n2 h1
    rw [f3 h2, f4 h3]
    have hw : 0 < b.y - a.y := by omega
    have hx : (0 < b.x - p.x ∧ 0 < b.x - q.x) ∨ (b.x - p.x < 0 ∧ b.x - q.x < 0) := by omega
    rcases hx with ⟨h5, h6⟩ | ⟨h5, h6⟩
    · have := Int.mul_pos hw h5; have := Int.mul_pos hw h6; omega
    · have := Int.mul_neg_of_pos_of_neg hw h5; have := Int.mul_neg_of_pos_of_neg hw h6; omega
  have kLM : p.y ≤ a.y → a.y < q.y → q.y ≤ b.y → (0 < A ↔ Q < 0) := fun h1 h2 h3 => by
    have hA : A ≠ 0 := fun h => by have := n1 h; omega
    have hQ : Q ≠ 0 := fun h => by have := n4 h; omega
    have c1 := core_LM i1 i2 h1 h2 h3 n5
    have c2 := core_LM i1' i2' h1 h2 h3 n5'
    constructor
    · intro hh
      rcases Int.lt_or_le (Q) 0 with h | h
      · exact h
      · exact (c1 hh (by omega)).elim
    · intro hh
      rcases Int.lt_or_le 0 (A) with h | h
      · exact h
      · exact (c2 (by omega) (by omega)).elim
  have kMU : a.y < p.y → p.y ≤ b.y → b.y < q.y → (0 < B ↔ P < 0) := fun h1 h2 h3 => by
    have hB : B ≠ 0 := fun h => by have := n2 h; omega
    have hP : P ≠ 0 := fun h => by have := n3 h; omega
    have c1 := core_MU i1 i2 h1 h2 h3 n5
    have c2 := core_MU i1' i2' h1 h2 h3 n5'
    constructor
    · intro hh
      rcases Int.lt_or_le (P) 0 with h | h
      · exact h
      · exact (c1 hh (by omega)).elim
    · intro hh
      rcases Int.lt_or_le 0 (B) with h | h
      · exact h
      · exact (c2 (by omega) (by omega)).elim
  have kLU : p.y ≤ a.y → b.y < q.y → (0 < A ↔ 0 < B) := fun h1 h3 => by
    have hA : A ≠ 0 := fun h => by have := n1 h; omega
    have hB : B ≠ 0 := fun h => by have := n2 h; omega
    constructor
    · intro hh
      rcases Int.lt_or_le 0 (B) with h | h
      · exact h
      · exact (core_LU i0 i1 i2 h1 hab h3 n5 (fun g1 g2 g3 => by have := dLU g1 g2 g3 h3; omega) hh (by omega)).elim
    · intro hh
      rcases Int.lt_or_le 0 (A) with h | h
      · exact h
      · exact (core_LU i0' i1' i2' h1 hab h3 n5' (fun g1 g2 g3 => by have := dLU (by omega) g2 g3 h3; omega) (by omega) (by omega)).elim
  have kMM : a.y < p.y → q.y ≤ b.y → (P < 0 ↔ Q < 0) := fun h1 h3 => by
    have hP : P ≠ 0 := fun h => by have := n3 h; omega
    have hQ : Q ≠ 0 := fun h => by have := n4 h; omega
    constructor
    · intro hh
      rcases Int.lt_or_le (Q) 0 with h | h
      · exact h
      · exact (core_MM i0 i1 i2 h1 hpq h3 n5 (fun g1 g2 g3 => by have := dMM g1 g2 g3 (by omega); omega) hh (by omega)).elim
    · intro hh
      rcases Int.lt_or_le (P) 0 with h | h
      · exact h
      · exact (core_MM i0' i1' i2' h1 hpq h3 n5' (fun g1 g2 g3 => by have := dMM (by omega) g2 g3 (by omega); omega) (by omega) (by omega)).elim
  have dec : ∀ {x y : Prop} [Decidable x] [Decidable y], (x ↔ y) → decide x = decide y := fun h => by simp [h]
  have hL : p.y ≤ a.y ∨ (a.y < p.y ∧ p.y ≤ b.y) ∨ b.y < p.y := by omega
  have hQ : q.y ≤ a.y ∨ (a.y < q.y ∧ q.y ≤ b.y) ∨ b.y < q.y := by omega
  have T : ∀ {x : Prop} [Decidable x], x → decide x = true := fun h => decide_eq_true h
  have F : ∀ {x : Prop} [Decidable x], ¬ x → decide x = false := fun h => decide_eq_false h
  rcases hL with hL | ⟨hL, hL'⟩ | hL <;> rcases hQ with hQ | ⟨hQ, hQ'⟩ | hQ
  · rw [F (show ¬ a.y < p.y by omega), F (show ¬ a.y < q.y by omega), F (show ¬ b.y < p.y by omega), F (show ¬ b.y < q.y by omega)]; rfl
  · rw [F (show ¬ a.y < p.y by omega), T (show a.y < q.y by omega), F (show ¬ b.y < p.y by omega), F (show ¬ b.y < q.y by omega), T hQ', T (show p.y < q.y by omega), dec (kLM hL hQ hQ')]
    cases decide (Q < 0) <;> simp
  · rw [F (show ¬ a.y < p.y by omega), T (show a.y < q.y by omega), F (show ¬ b.y < p.y by omega), T (show b.y < q.y by omega), F (show ¬ q.y ≤ b.y by omega), T (show p.y < q.y by omega), dec (kLU hL hQ)]
    cases decide (0 < B) <;> simp
  · omega
  · rw [T (show a.y < p.y by omega), T (show a.y < q.y by omega), F (show ¬ b.y < p.y by omega), F (show ¬ b.y < q.y by omega), T hL', T hQ', dec (kMM hL hQ')]
    simp
  · rw [T (show a.y < p.y by omega), T (show a.y < q.y by omega), F (show ¬ b.y < p.y by omega), T (show b.y < q.y by omega), T hL', F (show ¬ q.y ≤ b.y by omega), T (show p.y < q.y by omega), dec (kMU hL hL' hQ)]
    cases decide (P < 0) <;> simp
  · omega
  · omega
  · rw [T (show a.y < p.y by omega), T (show a.y < q.y by omega), T (show b.y < p.y by omega), T (show b.y < q.y by omega), F (show ¬ p.y ≤ b.y by omega), F (show ¬ q.y ≤ b.y by omega)]
    simp
theorem meetR_swap (p q a b : Pt) : meetR q p a b = meetR p q a b := by
  have h1 : crs q p a = - crs p q a := by unfold crs; grind
  have h2 : crs q p b = - crs p q b := by unfold crs; grind
  unfold meetR
  rw [has_swap q p a, has_swap q p b, h1, h2]
  have e : decide (sgn (-crs p q a) * sgn (-crs p q b) < 0) = decide (sgn (crs p q a) * sgn (crs p q b) < 0) := by rw [decide_eq_decide, sgn_mul, sgn_mul]; omega
  rw [e, Int.mul_comm (sgn (crs a b q))]
  generalize hasB p q a = u; generalize hasB p q b = v; generalize hasB a b p = s; generalize hasB a b q = t
  cases u <;> cases v <;> cases s <;> cases t <;> rfl
theorem meetR_swap2 (p q a b : Pt) : meetR p q b a = meetR p q a b := by
  rw [← meet_eq, ← meet_eq, meetP_symm, meetP_symm p q a b, meet_eq, meet_eq, meetR_swap]
theorem meetR_has {p q a b : Pt} (h : meetR p q a b = false) : hasB p q a = false ∧ hasB p q b = false := by
  unfold meetR at h
  simp only [Bool.or_eq_false_iff] at h
  exact ⟨h.1.1.1.1, h.1.1.1.2⟩
theorem par2 {a b : Pt} (hab : a.y ≤ b.y) {e : Edge'} (hm : meetR e.a e.b a b = false) : xor (flipB e a) (flipB e b) = xor (inR a b e.a) (inR a b e.b) := by
  obtain ⟨p, q⟩ := e
  simp only at hm ⊢
  rcases Int.le_total p.y q.y with h | h
  · exact par1 hab h hm
  · have h1 := meetR_has hm
    rw [← flip_swap h1.1, ← flip_swap h1.2, par1 hab h (by rw [meetR_swap]; exact hm), Bool.xor_comm]
/-! ### sums over the edges -/
def xorL (f : Edge' → Bool) : List Edge' → Bool
  | [] => false
  | e :: l => xor (f e) (xorL f l)
theorem xorL_append (f : Edge' → Bool) : ∀ l m, xorL f (l ++ m) = xor (xorL f l) (xorL f m)
  | [], m => by simp [xorL]
  | e :: l, m => by simp only [List.cons_append, xorL, xorL_append f l m, Bool.xor_assoc]
theorem xorL_xor (f g : Edge' → Bool) : ∀ l, xor (xorL f l) (xorL g l) = xorL (fun e => xor (f e) (g e)) l
  | [] => rfl
  | e :: l => by
    simp only [xorL]
    rw [← xorL_xor f g l]
    generalize f e = p; generalize g e = q; generalize xorL f l = r; generalize xorL g l = s
    cases p <;> cases q <;> cases r <;> cases s <;> rfl
theorem xorL_congr {f g : Edge' → Bool} : ∀ {l}, (∀ e ∈ l, f e = g e) → xorL f l = xorL g l
  | [], _ => rfl
  | e :: l, h => by rw [xorL, xorL, h e List.mem_cons_self, xorL_congr fun x hx => h x (List.mem_cons_of_mem _ hx)]
theorem whereV_xor {c : Pt} : ∀ {E : List Edge'} {o : Int}, (∀ e ∈ E, hasB e.a e.b c = false) → whereV c o E = if xorL (fun e => flipB e c) E = true then -o else o
  | [], o, _ => rfl
  | e :: E, o, h => by
    rw [whereV, if_neg (by rw [h e List.mem_cons_self]; simp), whereV_xor fun x hx => h x (List.mem_cons_of_mem _ hx), xorL]
    cases flipB e c <;> cases xorL (fun e => flipB e c) E <;> simp
theorem whereV_has {c : Pt} : ∀ {E : List Edge'} {o : Int}, (∃ e ∈ E, hasB e.a e.b c = true) → whereV c o E = 0
  | [], _, ⟨e, h, _⟩ => by cases h
  | x :: E, o, ⟨e, h, h2⟩ => by
    rw [whereV]
    by_cases hx : hasB x.a x.b c = true
    · rw [if_pos hx]
    · rw [if_neg hx]
      rcases List.mem_cons.1 h with rfl | h
      · exact absurd h2 hx
      · exact whereV_has ⟨e, h, h2⟩
theorem closed_sum (f : Pt → Bool) (l : List Pt) : xorL (fun e => xor (f e.a) (f e.b)) (edgesL l) = false := by
  unfold edgesL
  rcases Nat.eq_zero_or_pos l.length with h0 | h0
  · rw [h0]; rfl
  · have path : ∀ m, m < l.length → xorL (fun e => xor (f e.a) (f e.b)) ((List.range m).map (edgeAt l)) = xor (f (l.getD 0 default)) (f (l.getD m default)) := fun m => by
      induction m with
      | zero => intro _; simp [xorL]
      | succ m ih =>
        intro hm
        rw [List.range_succ, List.map_append, xorL_append, ih (by omega)]
        simp only [List.map_cons, List.map_nil, xorL, edgeAt]
        rw [Nat.mod_eq_of_lt hm]
        generalize f (l.getD 0 default) = p; generalize f (l.getD m default) = q; generalize f (l.getD (m + 1) default) = r
        cases p <;> cases q <;> cases r <;> rfl
    obtain ⟨n, hn⟩ : ∃ n, l.length = n + 1 := ⟨l.length - 1, by omega⟩
    have hp := path n (by omega)
    rw [hn, List.range_succ, List.map_append, xorL_append, hp]
    simp only [List.map_cons, List.map_nil, xorL, edgeAt]
    rw [hn, Nat.mod_self]
    generalize f (l.getD 0 default) = p; generalize f (l.getD n default) = q
    cases p <;> cases q <;> rfl
theorem same_where1 {l : List Pt} {a b : Pt} (hab : a.y ≤ b.y) (hm : ∀ e ∈ edgesL l, meetR e.a e.b a b = false) : whereV a (-1) (edgesL l) = whereV b (-1) (edgesL l) := by
  rw [whereV_xor fun e he => (meetR_has (hm e he)).1, whereV_xor fun e he => (meetR_has (hm e he)).2]
  have h1 : xor (xorL (fun e => flipB e a) (edgesL l)) (xorL (fun e => flipB e b) (edgesL l)) = false := by
    rw [xorL_xor, xorL_congr (g := fun e => xor (inR a b e.a) (inR a b e.b)) fun e he => par2 hab (hm e he)]
    exact closed_sum _ l
  have h2 : xorL (fun e => flipB e a) (edgesL l) = xorL (fun e => flipB e b) (edgesL l) := by simpa using h1
  rw [h2]
theorem same_where {l : List Pt} {a b : Pt} (hm : ∀ e ∈ edgesL l, meetR e.a e.b a b = false) : whereV a (-1) (edgesL l) = whereV b (-1) (edgesL l) := by
  rcases Int.le_total a.y b.y with h | h
  · exact same_where1 h hm
  · exact (same_where1 h fun e he => by rw [meetR_swap2]; exact hm e he).symm
end Go.Proofs.Ytkfklebaeifdnaa
