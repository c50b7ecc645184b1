/-
  Plain: every point of an edge is as far from the center as the comparison says; so a segment within the disc meets no edge.
-/
import Derived.Test.YtkfklebaeifdnaaG2
set_option linter.all false
namespace Go.Proofs.Ytkfklebaeifdnaa
open Go Go.W Go.RowKit

/-- square of the length of m (p - a) + n (q - a) -/
def comb2 (a p q : Pt) (m n : Int) : Int := (m * (p.x - a.x) + n * (q.x - a.x)) * (m * (p.x - a.x) + n * (q.x - a.x)) + (m * (p.y - a.y) + n * (q.y - a.y)) * (m * (p.y - a.y) + n * (q.y - a.y))
theorem le_of_mul {w x y : Int} (hw : 0 < w) (h : w * x ≤ w * y) : x ≤ y := Int.le_of_mul_le_mul_left h hw
theorem mul_nn {a b : Int} (ha : 0 ≤ a) (hb : 0 ≤ b) : 0 ≤ a * b := Int.mul_nonneg ha hb
/-- d: what the comparison exceeds at least -/
theorem far {a p q : Pt} {r d m n : Int} (hd : 0 ≤ d) (hc : d ≤ cmpV p q a r) (hm : 0 ≤ m) (hn : 0 ≤ n) (hk : 0 < m + n) : ∃ t, 0 ≤ t ∧ (0 < d → 0 < t) ∧ (r * r) * ((m + n) * (m + n)) + t ≤ comb2 a p q m n := by
  have hk2 := Int.mul_pos hk hk
  unfold cmpV at hc
  split at hc
  · rename_i h1
    -- along <= 0
    have e : comb2 a p q m n = (m + n) * (m + n) * dotp a p p + (2 * ((m + n) * n)) * (- dotp p q a) + (n * n) * dotp p q q := by unfold comb2 dotp; grind
    have t1 : (m + n) * (m + n) * (r * r + d) ≤ (m + n) * (m + n) * dotp a p p := Int.mul_le_mul_of_nonneg_left (by omega) (by omega)
    have t2 : 0 ≤ (2 * ((m + n) * n)) * (- dotp p q a) := mul_nn (by have := mul_nn (show 0 ≤ m + n by omega) hn; omega) (by omega)
    have t3 : 0 ≤ (n * n) * dotp p q q := mul_nn (sq_nn n) (by unfold dotp; have := sq_nn (q.x - p.x); have := sq_nn (q.y - p.y); omega)
    refine ⟨(m + n) * (m + n) * d, mul_nn (by omega) hd, fun h => Int.mul_pos hk2 h, ?_⟩
    rw [e]
    have e2 : (m + n) * (m + n) * (r * r + d) = (r * r) * ((m + n) * (m + n)) + (m + n) * (m + n) * d := by grind
    omega
  · split at hc
    · rename_i h1 h2
      have e : comb2 a p q m n = (m + n) * (m + n) * dotp a q q + (2 * ((m + n) * m)) * (dotp p q a - dotp p q q) + (m * m) * dotp p q q := by unfold comb2 dotp; grind
      have t1 : (m + n) * (m + n) * (r * r + d) ≤ (m + n) * (m + n) * dotp a q q := Int.mul_le_mul_of_nonneg_left (by omega) (by omega)
      have t2 : 0 ≤ (2 * ((m + n) * m)) * (dotp p q a - dotp p q q) := mul_nn (by have := mul_nn (show 0 ≤ m + n by omega) hm; omega) (by omega)
      have t3 : 0 ≤ (m * m) * dotp p q q := mul_nn (sq_nn m) (by unfold dotp; have := sq_nn (q.x - p.x); have := sq_nn (q.y - p.y); omega)
      refine ⟨(m + n) * (m + n) * d, mul_nn (by omega) hd, fun h => Int.mul_pos hk2 h, ?_⟩
      rw [e]
      have e2 : (m + n) * (m + n) * (r * r + d) = (r * r) * ((m + n) * (m + n)) + (m + n) * (m + n) * d := by grind
      omega
    · rename_i h1 h2
      have hw : 0 < dotp p q q := by omega
      have e : dotp p q q * comb2 a p q m n = (m + n) * (m + n) * (crs p q a * crs p q a) + ((m + n) * dotp p q a - n * dotp p q q) * ((m + n) * dotp p q a - n * dotp p q q) := by unfold comb2 dotp crs; grind
      have t1 : (m + n) * (m + n) * (r * r * dotp p q q + d) ≤ (m + n) * (m + n) * (crs p q a * crs p q a) := Int.mul_le_mul_of_nonneg_left (by omega) (by omega)
      have t2 := sq_nn ((m + n) * dotp p q a - n * dotp p q q)
      have e2 : (m + n) * (m + n) * (r * r * dotp p q q + d) = dotp p q q * ((r * r) * ((m + n) * (m + n))) + (m + n) * (m + n) * d := by grind
      have t4 : 0 ≤ (m + n) * (m + n) * d := mul_nn (by omega) hd
      have key : dotp p q q * ((r * r) * ((m + n) * (m + n))) + (m + n) * (m + n) * d ≤ dotp p q q * comb2 a p q m n := by omega
      by_cases hd0 : 0 < d
      · have t5 : 0 < (m + n) * (m + n) * d := Int.mul_pos hk2 hd0
        refine ⟨1, by omega, fun _ => by omega, ?_⟩
        have : (r * r) * ((m + n) * (m + n)) < comb2 a p q m n := by
          rcases Int.lt_or_le ((r * r) * ((m + n) * (m + n))) (comb2 a p q m n) with h | h
          · exact h
          · have := Int.mul_le_mul_of_nonneg_left h (Int.le_of_lt hw); omega
        omega
      · exact ⟨0, by omega, fun h => absurd h hd0, by have := le_of_mul hw (show dotp p q q * ((r * r) * ((m + n) * (m + n))) ≤ dotp p q q * comb2 a p q m n by omega); omega⟩
/-- the disc about a that reaches to b -/
theorem no_meet {a b p q : Pt} {r : Int} (hpq : p ≠ q) (hc : 0 ≤ cmpV p q a r) (hd : dotp a b b ≤ r * r) (hb : hasB p q b = false) : meetR p q a b = false := by
  have hw : 0 < dotp p q q := by have := ne_sq (a := q) (b := p) (fun h => hpq h.symm); unfold dotp; exact this
  have ends : r * r ≤ dotp a p p ∧ r * r ≤ dotp a q q := by
    obtain ⟨t, t0, _, h1⟩ := far (d := 0) (m := 1) (n := 0) (by omega) hc (by omega) (by omega) (by omega)
    obtain ⟨t', t0', _, h2⟩ := far (d := 0) (m := 0) (n := 1) (by omega) hc (by omega) (by omega) (by omega)
    unfold comb2 at h1 h2
    unfold dotp
    simp at h1 h2
    omega
  -- an end of the edge does not lie on the segment
  have noend : ∀ z : Pt, r * r ≤ dotp a z z → hasB p q z = true → hasB a b z = false := fun z hz hz2 => by
    cases hh : hasB a b z with
    | false => rfl
    | true =>
      exfalso
      obtain ⟨h0, h1⟩ := has_iff.1 hh
      have hne : z ≠ b := fun he => by rw [he, hb] at hz2; cases hz2
      have hzb := ne_sq hne
      have e : dotp a b b = dotp a z z + dotp z b b - 2 * dotp z a b := by unfold dotp; grind
      have e2 : dotp z b b = (z.x - b.x) * (z.x - b.x) + (z.y - b.y) * (z.y - b.y) := by unfold dotp; grind
      omega
  have hp1 : hasB p q p = true := has_iff.2 ⟨by unfold crs; grind, by unfold dotp; simp⟩
  have hq1 : hasB p q q = true := has_iff.2 ⟨by unfold crs; grind, by unfold dotp; simp⟩
  have hA : hasB p q a = false := by
    cases hh : hasB p q a with
    | false => rfl
    | true =>
      exfalso
      obtain ⟨h0, h1⟩ := has_iff.1 hh
      have hm0 : 0 ≤ dotp q a p := by
        have e : dotp q a p = dotp a q q - dotp a p q := by unfold dotp; grind
        have : 0 ≤ dotp a q q := by unfold dotp; have := sq_nn (q.x - a.x); have := sq_nn (q.y - a.y); omega
        omega
      have hn0 : 0 ≤ dotp p a q := by
        have e : dotp p a q = dotp a p p - dotp a p q := by unfold dotp; grind
        have : 0 ≤ dotp a p p := by unfold dotp; have := sq_nn (p.x - a.x); have := sq_nn (p.y - a.y); omega
        omega
      have hk : dotp q a p + dotp p a q = dotp p q q := by unfold dotp; grind
      obtain ⟨t, t0, _, h2⟩ := far (d := 0) (m := dotp q a p) (n := dotp p a q) (by omega) hc hm0 hn0 (by omega)
      have hz : comb2 a p q (dotp q a p) (dotp p a q) = 0 := by
        have hx : dotp q a p * (p.x - a.x) + dotp p a q * (q.x - a.x) = crs p q a * (q.y - p.y) := by unfold dotp crs; grind
        have hy : dotp q a p * (p.y - a.y) + dotp p a q * (q.y - a.y) = crs p q a * (p.x - q.x) := by unfold dotp crs; grind
        unfold comb2; rw [hx, hy, h0]; simp
      rw [hz, hk] at h2
      have hr : r * r = 0 := by
        have h3 := Int.mul_pos hw hw
        have h4 := sq_nn r
        rcases Int.lt_or_le 0 (r * r) with h | h
        · have := Int.mul_pos h h3; omega
        · omega
      -- then b = a
      have : b = a := by
        rw [hr] at hd
        have g1 := sq_nn (b.x - a.x)
        have g2 := sq_nn (b.y - a.y)
        unfold dotp at hd
        have x0 : b.x - a.x = 0 := by
          rcases Int.mul_eq_zero.1 (show (b.x - a.x) * (b.x - a.x) = 0 by omega) with h | h <;> exact h
        have y0 : b.y - a.y = 0 := by
          rcases Int.mul_eq_zero.1 (show (b.y - a.y) * (b.y - a.y) = 0 by omega) with h | h <;> exact h
        cases a; cases b; simp at x0 y0 ⊢; omega
      rw [this, hh] at hb; cases hb
  have hP := noend p ends.1 hp1
  have hQ := noend q ends.2 hq1
  unfold meetR
  rw [hA, hb, hP, hQ]
  simp only [Bool.or_self, Bool.false_or]
  rw [Bool.and_eq_false_iff, decide_eq_false_iff_not, decide_eq_false_iff_not, sgn_mul, sgn_mul]
  by_cases h1 : (crs p q a < 0 ∧ 0 < crs p q b) ∨ (0 < crs p q a ∧ crs p q b < 0)
  · right
    intro h2
    have i0 : crs p q a + crs a b p = crs p q b + crs a b q := by unfold crs; grind
    have hb0 : 0 ≤ dotp a b b := by unfold dotp; have := sq_nn (b.x - a.x); have := sq_nn (b.y - a.y); omega
    -- the crossing point, as seen from a
    have hx : -crs a b q * (p.x - a.x) + crs a b p * (q.x - a.x) = -(crs p q a) * (b.x - a.x) := by unfold crs; grind
    have hy : -crs a b q * (p.y - a.y) + crs a b p * (q.y - a.y) = -(crs p q a) * (b.y - a.y) := by unfold crs; grind
    have fin : ∀ m n : Int, 0 ≤ m → 0 ≤ n → 0 < m + n → comb2 a p q m n = crs p q a * crs p q a * dotp a b b → (crs p q a * crs p q a < (m + n) * (m + n)) → False := fun m n hm hn hk hcm hlt => by
      obtain ⟨t, t0, _, h3⟩ := far (d := 0) (by omega) hc hm hn hk
      rw [hcm] at h3
      have h4 : crs p q a * crs p q a * dotp a b b ≤ crs p q a * crs p q a * (r * r) := Int.mul_le_mul_of_nonneg_left hd (sq_nn _)
      have hr0 := sq_nn r
      rcases Int.lt_or_le 0 (r * r) with h | h
      · have h5 := Int.mul_lt_mul_of_pos_left hlt h
        have h6 : crs p q a * crs p q a * (r * r) = r * r * (crs p q a * crs p q a) := Int.mul_comm _ _
        omega
      · -- r = 0: b = a
        have hz : dotp a b b = 0 := by omega
        have g1 := sq_nn (b.x - a.x)
        have g2 := sq_nn (b.y - a.y)
        unfold dotp at hz
        have x0 : b.x - a.x = 0 := by
          rcases Int.mul_eq_zero.1 (show (b.x - a.x) * (b.x - a.x) = 0 by omega) with h | h <;> exact h
        have y0 : b.y - a.y = 0 := by
          rcases Int.mul_eq_zero.1 (show (b.y - a.y) * (b.y - a.y) = 0 by omega) with h | h <;> exact h
        have : b = a := by cases a; cases b; simp at x0 y0 ⊢; omega
        rw [this] at h1; omega
    have hsq : ∀ x y : Int, (0 < x ∧ y < 0) ∨ (x < 0 ∧ 0 < y) → x * x < (x - y) * (x - y) := fun x y h => by
      have g1 : x * y < 0 := by
        rcases h with ⟨h, h'⟩ | ⟨h, h'⟩
        · exact Int.mul_neg_of_pos_of_neg h h'
        · exact Int.mul_neg_of_neg_of_pos h h'
      have g2 := sq_nn y
      have g3 : y ≠ 0 := by omega
      have g4 := sq_pos g3
      have e : (x - y) * (x - y) = x * x - 2 * (x * y) + y * y := by grind
      omega
    have hab : crs p q a * crs p q a < (crs p q a - crs p q b) * (crs p q a - crs p q b) := hsq _ _ (by omega)
    rcases h2 with ⟨h2, h3⟩ | ⟨h2, h3⟩
    · refine fin (crs a b q) (-crs a b p) (by omega) (by omega) (by omega) ?_ ?_
      · unfold comb2
        have x1 : crs a b q * (p.x - a.x) + -crs a b p * (q.x - a.x) = crs p q a * (b.x - a.x) := by grind
        have y1 : crs a b q * (p.y - a.y) + -crs a b p * (q.y - a.y) = crs p q a * (b.y - a.y) := by grind
        rw [x1, y1]; unfold dotp; grind
      · rw [show crs a b q + -crs a b p = crs p q a - crs p q b by omega]; exact hab
    · refine fin (-crs a b q) (crs a b p) (by omega) (by omega) (by omega) ?_ ?_
      · unfold comb2
        rw [hx, hy]; unfold dotp; grind
      · have : (-crs a b q + crs a b p) * (-crs a b q + crs a b p) = (crs p q a - crs p q b) * (crs p q a - crs p q b) := by
          rw [show -crs a b q + crs a b p = -(crs p q a - crs p q b) by omega]; grind
        rw [this]; exact hab
  · left; exact h1
/-- no point of the disc lies on an edge that is farther away -/
theorem no_has {a b p q : Pt} {r : Int} (hpq : p ≠ q) (hc : 0 < cmpV p q a r) (hd : dotp a b b ≤ r * r) : hasB p q b = false := by
  cases hh : hasB p q b with
  | false => rfl
  | true =>
    exfalso
    obtain ⟨h0, h1⟩ := has_iff.1 hh
    have hw : 0 < dotp p q q := by have := ne_sq (a := q) (b := p) (fun h => hpq h.symm); unfold dotp; exact this
    have hm0 : 0 ≤ dotp q b p := by
      have e : dotp q b p = dotp b q q - dotp b p q := by unfold dotp; grind
      have : 0 ≤ dotp b q q := by unfold dotp; have := sq_nn (q.x - b.x); have := sq_nn (q.y - b.y); omega
      omega
    have hn0 : 0 ≤ dotp p b q := by
      have e : dotp p b q = dotp b p p - dotp b p q := by unfold dotp; grind
      have : 0 ≤ dotp b p p := by unfold dotp; have := sq_nn (p.x - b.x); have := sq_nn (p.y - b.y); omega
      omega
    have hk : dotp q b p + dotp p b q = dotp p q q := by unfold dotp; grind
    obtain ⟨t, t0, t1, h2⟩ := far (d := 1) (m := dotp q b p) (n := dotp p b q) (by omega) (show 1 ≤ cmpV p q a r by omega) hm0 hn0 (by omega)
    have t1 := t1 (by omega)
    have hz : comb2 a p q (dotp q b p) (dotp p b q) = dotp p q q * dotp p q q * dotp a b b := by
      have hx : dotp q b p * (p.x - a.x) + dotp p b q * (q.x - a.x) = dotp p q q * (b.x - a.x) + crs p q b * (q.y - p.y) := by unfold dotp crs; grind
      have hy : dotp q b p * (p.y - a.y) + dotp p b q * (q.y - a.y) = dotp p q q * (b.y - a.y) + crs p q b * (p.x - q.x) := by unfold dotp crs; grind
      unfold comb2; rw [hx, hy, h0]
      have e : dotp a b b = (b.x - a.x) * (b.x - a.x) + (b.y - a.y) * (b.y - a.y) := rfl
      rw [e]
      generalize dotp p q q = w
      grind
    rw [hz, hk] at h2
    have h4 : dotp p q q * dotp p q q * dotp a b b ≤ dotp p q q * dotp p q q * (r * r) := Int.mul_le_mul_of_nonneg_left hd (sq_nn _)
    have h5 : r * r * (dotp p q q * dotp p q q) = dotp p q q * dotp p q q * (r * r) := Int.mul_comm _ _
    omega
theorem edge_ne {l : List Pt} (h : simpleB (edgesL l) = true) : ∀ e ∈ edgesL l, e.a ≠ e.b := fun e he => by
  unfold simpleB at h
  obtain ⟨i, hi, rfl⟩ := List.mem_iff_getElem.1 he
  have := List.all_eq_true.1 h i (by simpa using hi)
  rw [Bool.and_eq_true, List.getD_eq_getElem?_getD, List.getElem?_eq_getElem hi] at this
  simpa using this.1
/-- THE LAW: a covered disc lies inside -/
theorem cover_point {l : List Pt} {a b : Pt} {r : Int} (hs : simpleB (edgesL l) = true) (hd : dotp a b b ≤ r * r) (h : coverV l a r = true) : 0 ≤ whereV b (-1) (edgesL l) := by
  rw [cover_ref, Bool.and_eq_true, Bool.not_eq_true', List.any_eq_false] at h
  by_cases hx : ∃ e ∈ edgesL l, hasB e.a e.b b = true
  · rw [whereV_has hx]; omega
  · have hb : ∀ e ∈ edgesL l, hasB e.a e.b b = false := fun e he => by
      cases hh : hasB e.a e.b b with
      | false => rfl
      | true => exact absurd ⟨e, he, hh⟩ hx
    rw [← same_where (a := a) fun e he => no_meet (edge_ne hs e he) (by have := h.2 e he; simp at this; omega) hd (hb e he)]
    simpa using h.1
/-- a point of the disc that is not outside: the disc touches -/
theorem touch_point {l : List Pt} {a b : Pt} {r : Int} (hs : simpleB (edgesL l) = true) (hd : dotp a b b ≤ r * r) (h : 0 ≤ whereV b (-1) (edgesL l)) : touchV l a r = true := by
  cases ht : touchV l a r with
  | true => rfl
  | false =>
    exfalso
    rw [touch_ref, Bool.or_eq_false_iff, List.any_eq_false] at ht
    have hc : ∀ e ∈ edgesL l, 0 < cmpV e.a e.b a r := fun e he => by have := ht.2 e he; simp at this; omega
    rw [← same_where (a := a) fun e he => no_meet (edge_ne hs e he) (by have := hc e he; omega) hd (no_has (edge_ne hs e he) (hc e he) hd)] at h
    have := ht.1
    simp at this; omega
end Go.Proofs.Ytkfklebaeifdnaa
