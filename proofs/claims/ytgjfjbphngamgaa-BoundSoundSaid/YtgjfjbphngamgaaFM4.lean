/-
  Plain: costs of flows; potentials that prove a cost; further units cost no less.
-/
import Derived.Test.YtgjfjbphngamgaaFM1
set_option linter.all false
namespace Go.Proofs.Ytgjfjbphngamgaa.Flo
open Go Go.W

def costOf : List Arc → List Int → Int
  | a :: l, x :: on => x * a.cost + costOf l on
  | _, _ => 0
def rc (p : Int → Int) (a : Arc) : Int := a.cost + p a.f - p a.t
/-- the potentials prove the cost -/
def OptPot (p : Int → Int) (l : List Arc) (on : List Int) : Prop := ∀ i (h : i < l.length) (h2 : i < on.length), (on[i] < l[i].cap → 0 ≤ rc p l[i]) ∧ (0 < on[i] → rc p l[i] ≤ 0)
/-- a number per arc -/
def lin (c : Arc → Int) : List Arc → List Int → Int
  | a :: l, x :: on => x * c a + lin c l on
  | _, _ => 0
theorem costOf_lin : ∀ (l : List Arc) (on : List Int), costOf l on = lin (·.cost) l on
  | [], _ => by simp [costOf, lin]
  | _ :: _, [] => by simp [costOf, lin]
  | a :: l, x :: on => by simp only [costOf, lin]; rw [costOf_lin l on]
theorem lin_rc (p : Int → Int) : ∀ (l : List Arc) (on : List Int), lin (rc p) l on = costOf l on + netOut p l on
  | [], _ => by simp [costOf, lin, netOut]
  | _ :: _, [] => by simp [costOf, lin, netOut]
  | a :: l, x :: on => by
    simp only [costOf, lin, netOut]
    rw [lin_rc p l on]
    have : x * rc p a = x * a.cost + x * (p a.f - p a.t) := by rw [← Int.mul_add]; congr 1; unfold rc; omega
    omega
theorem lin_congr (c : Arc → Int) : ∀ (l : List Arc) (on on' : List Int), on.length = l.length → on'.length = l.length → (∀ i (h : i < l.length) (h2 : i < on.length) (h3 : i < on'.length), on'[i] = on[i] ∨ c l[i] = 0) → lin c l on' = lin c l on
  | [], _, _, _, _, _ => by simp [lin]
  | a :: l, [], _, h, _, _ => by simp at h
  | a :: l, _ :: _, [], _, h, _ => by simp at h
  | a :: l, x :: on, y :: on', h1, h2, h => by
    simp only [lin]
    rw [lin_congr c l on on' (by simpa using h1) (by simpa using h2) fun i q1 q2 q3 => h (i + 1) (Nat.succ_lt_succ q1) (Nat.succ_lt_succ q2) (Nat.succ_lt_succ q3)]
    have h0 := h 0 (by simp) (by simp) (by simp)
    simp only [List.getElem_cons_zero] at h0
    rcases h0 with h0 | h0 <;> rw [h0]
    simp
/-- what a potential says of flows of one amount: only the ends count -/
theorem netOut_ends {n : Nat} {l : List Arc} {s t : Int} {on : List Int} {amt : Int} (hf : IsFlow n l s t on amt) (hn : NodesOk n l) (hs : 0 ≤ s ∧ s < n) (ht : 0 ≤ t ∧ t < n) (hst : s ≠ t) (p : Int → Int) : netOut p l on = amt * (p s - p t) := by
  have key : ∀ p : Int → Int, p t = 0 → netOut p l on = amt * p s := by
    intro p hp
    rw [netOut_sum n p l on hn, sumTo_single _ s n hs.1 hs.2 fun u h0 h1 h2 => ?_, hf.amt, Int.mul_comm]
    by_cases hu : u = t
    · subst hu; rw [hp]; simp
    · rw [hf.cons u h0 h1 h2 hu]; simp
  have hconst : ∀ (c : Int) (l : List Arc) (on : List Int), netOut (fun u => p u - c) l on = netOut p l on := by
    intro c l
    induction l with
    | nil => intro on; simp [netOut]
    | cons a l ih =>
      intro on
      cases on with
      | nil => simp [netOut]
      | cons x on => simp only [netOut]; rw [ih, show p a.f - c - (p a.t - c) = p a.f - p a.t by omega]
  rw [← hconst (p t), key _ (by omega)]
theorem lin_diff (p : Int → Int) : ∀ (l : List Arc) (x y : List Int), VFlow l x → VFlow l y → OptPot p l x → lin (rc p) l x ≤ lin (rc p) l y
  | [], _, _, _, _, _ => by simp [lin]
  | a :: l, [], _, h, _, _ => by have := h.len; simp at this
  | a :: l, _ :: _, [], _, h, _ => by have := h.len; simp at this
  | a :: l, x :: xs, y :: ys, hx, hy, ho => by
    simp only [lin]
    have ih := lin_diff p l xs ys ⟨by simpa using hx.len, fun i h h2 => hx.bd (i + 1) (Nat.succ_lt_succ h) (Nat.succ_lt_succ h2)⟩ ⟨by simpa using hy.len, fun i h h2 => hy.bd (i + 1) (Nat.succ_lt_succ h) (Nat.succ_lt_succ h2)⟩ fun i h h2 => ho (i + 1) (Nat.succ_lt_succ h) (Nat.succ_lt_succ h2)
    have hx0 := hx.bd 0 (by simp) (by simp)
    have hy0 := hy.bd 0 (by simp) (by simp)
    have ho0 := ho 0 (by simp) (by simp)
    simp only [List.getElem_cons_zero] at hx0 hy0 ho0
    have : x * rc p a ≤ y * rc p a := by
      rcases Int.lt_trichotomy (rc p a) 0 with h | h | h
      · have hxc : x = a.cap := by rcases Int.lt_or_eq_of_le hx0.2 with q | q; have := ho0.1 q; omega; exact q
        subst hxc
        exact Int.mul_le_mul_of_nonpos_right hy0.2 (by omega)
      · rw [h]; simp
      · have hxc : x = 0 := by rcases Int.lt_or_eq_of_le hx0.1 with q | q; have := ho0.2 q; omega; exact q.symm
        subst hxc
        rw [Int.zero_mul]
        exact Int.mul_nonneg hy0.1 (by omega)
    omega
/-- the proved flow costs no more, but for what further units cost by the potentials -/
theorem opt_le {n : Nat} {l : List Arc} {s t : Int} {x y : List Int} {a b : Int} {p : Int → Int} (hx : IsFlow n l s t x a) (hy : IsFlow n l s t y b) (ho : OptPot p l x) (hn : NodesOk n l) (hs : 0 ≤ s ∧ s < n) (ht : 0 ≤ t ∧ t < n) (hst : s ≠ t) :
    costOf l x + (b - a) * (p t - p s) ≤ costOf l y := by
  have h := lin_diff p l x y hx.v hy.v ho
  rw [lin_rc, lin_rc, netOut_ends hx hn hs ht hst, netOut_ends hy hn hs ht hst] at h
  have e : (b - a) * (p t - p s) = a * (p s - p t) - b * (p s - p t) := by rw [← Int.sub_mul, show p t - p s = -(p s - p t) by omega, Int.mul_neg, ← Int.neg_mul, Int.neg_sub]
  omega
/-- THE LEAST COST of an amount -/
def IsLeast (n : Nat) (l : List Arc) (s t amt c : Int) : Prop := (∃ on, IsFlow n l s t on amt ∧ costOf l on = c) ∧ ∀ on, IsFlow n l s t on amt → c ≤ costOf l on
theorem IsLeast.unique {n : Nat} {l : List Arc} {s t amt a b : Int} (ha : IsLeast n l s t amt a) (hb : IsLeast n l s t amt b) : a = b := by
  obtain ⟨⟨x, hx, rfl⟩, h1⟩ := ha
  obtain ⟨⟨y, hy, rfl⟩, h2⟩ := hb
  have := h1 y hy
  have := h2 x hx
  omega
theorem least_of {n : Nat} {l : List Arc} {s t : Int} {x : List Int} {a : Int} {p : Int → Int} (hx : IsFlow n l s t x a) (ho : OptPot p l x) (hn : NodesOk n l) (hs : 0 ≤ s ∧ s < n) (ht : 0 ≤ t ∧ t < n) (hst : s ≠ t) : IsLeast n l s t a (costOf l x) :=
  ⟨⟨x, hx, rfl⟩, fun y hy => by have := opt_le hx hy ho hn hs ht hst; simpa using this⟩
end Go.Proofs.Ytgjfjbphngamgaa.Flo
