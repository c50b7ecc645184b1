/-
  Plain: tables that look the same; a push along a chain moves from one to another; a cut shows that a cell cannot grow or shrink.
-/
import Derived.Test.YtmkgfgnpgoegcaaT23
set_option linter.all false
namespace Go.Proofs.Ytmkgfgnpgoegcaa
open Go Go.W Go.RowKit

def sumN (f : Nat → Int) : Nat → Int
  | 0 => 0
  | n + 1 => sumN f n + f n
theorem sumN_congr {f g : Nat → Int} : ∀ {n : Nat}, (∀ k, k < n → f k = g k) → sumN f n = sumN g n
  | 0, _ => rfl
  | n + 1, h => by rw [sumN, sumN, sumN_congr fun k hk => h k (by omega), h n (by omega)]
theorem sumN_add (f g : Nat → Int) : ∀ n, sumN (fun k => f k + g k) n = sumN f n + sumN g n
  | 0 => rfl
  | n + 1 => by simp only [sumN, sumN_add f g n]; omega
theorem sumN_sub (f g : Nat → Int) : ∀ n, sumN (fun k => f k - g k) n = sumN f n - sumN g n
  | 0 => rfl
  | n + 1 => by simp only [sumN, sumN_sub f g n]; omega
theorem sumN_nonneg {f : Nat → Int} : ∀ {n : Nat}, (∀ k, k < n → 0 ≤ f k) → 0 ≤ sumN f n
  | 0, _ => by simp [sumN]
  | n + 1, h => by
    have h1 := sumN_nonneg (f := f) (n := n) fun k hk => h k (by omega)
    have h2 := h n (by omega)
    simp only [sumN]; omega
theorem sumN_le_one {f : Nat → Int} {n k : Nat} (h : ∀ k, k < n → 0 ≤ f k) (hk : k < n) : f k ≤ sumN f n := by
  induction n with
  | zero => omega
  | succ n ih =>
    have h1 := sumN_nonneg (f := f) (n := n) fun k hk => h k (by omega)
    have h2 := h n (by omega)
    simp only [sumN]
    by_cases e : k = n
    · subst e; omega
    · have := ih (fun k hk => h k (by omega)) (by omega); omega
/-- one term apart -/
theorem sumN_pick {f : Nat → Int} {n i : Nat} (hi : i < n) : sumN f n = sumN (fun k => if k = i then 0 else f k) n + f i := by
  induction n with
  | zero => omega
  | succ n ih =>
    simp only [sumN]
    by_cases e : i = n
    · subst e
      rw [sumN_congr (f := fun k => if k = i then 0 else f k) (g := f) fun k hk => if_neg (by omega)]
      simp
    · rw [ih (by omega), if_neg (fun h => e h.symm)]; omega
def updF (u : Nat → Int) (i : Nat) (v : Int) : Nat → Int := fun k => if k = i then v else u k
theorem updF_same (u : Nat → Int) (i : Nat) (v : Int) : updF u i v i = v := by simp [updF]
theorem updF_other (u : Nat → Int) {i k : Nat} (v : Int) (h : k ≠ i) : updF u i v k = u k := by simp [updF, h]
/-- what goes out of the nodes by a potential: rows are the nodes from 0, columns those from 8 -/
def Out (c n : Nat) (P : Nat → Int) (u : Nat → Int) : Int := sumN (fun k => u k * (P (k / c) - P (8 + k % c))) n
theorem Out_upd {c n i : Nat} (P u : Nat → Int) (v : Int) (hi : i < n) : Out c n P (updF u i v) = Out c n P u + (v - u i) * (P (i / c) - P (8 + i % c)) := by
  unfold Out
  rw [sumN_pick hi, sumN_pick (f := fun k => u k * (P (k / c) - P (8 + k % c))) hi]
  have e : sumN (fun k => if k = i then 0 else updF u i v k * (P (k / c) - P (8 + k % c))) n = sumN (fun k => if k = i then 0 else u k * (P (k / c) - P (8 + k % c))) n :=
    sumN_congr fun k _ => by
      by_cases h : k = i
      · simp [h]
      · rw [if_neg h, if_neg h, updF_other u v h]
  rw [e, updF_same, Int.sub_mul]; omega
structure Alike (c n : Nat) (z : Nat → Int) (h : Nat → Bool) (u : Nat → Int) : Prop where
  pos : ∀ k, k < n → 0 ≤ u k
  same : ∀ k, k < n → h k = false → u k = z k
  out : ∀ P, Out c n P u = Out c n P z
theorem Alike.refl {c n : Nat} {z : Nat → Int} {h : Nat → Bool} (hz : ∀ k, k < n → 0 ≤ z k) : Alike c n z h z := ⟨hz, fun _ _ _ => rfl, fun _ => rfl⟩
theorem Alike.sum {c n : Nat} {z : Nat → Int} {h : Nat → Bool} {u : Nat → Int} (a : Alike c n z h u) (hn : n ≤ 8 * c) (hc : 0 < c) : sumN u n = sumN z n := by
  have := a.out (fun x => if x < 8 then 1 else 0)
  unfold Out at this
  have e : ∀ w : Nat → Int, sumN (fun k => w k * ((if k / c < 8 then 1 else 0) - (if 8 + k % c < 8 then 1 else 0))) n = sumN w n := fun w => sumN_congr fun k hk => by
    have h1 : k / c < 8 := by rw [Nat.div_lt_iff_lt_mul hc]; omega
    rw [if_pos h1, if_neg (by omega)]; omega
  rw [e u, e z] at this; exact this
theorem Alike.le {c n : Nat} {z : Nat → Int} {h : Nat → Bool} {u : Nat → Int} (a : Alike c n z h u) (hn : n ≤ 8 * c) (hc : 0 < c) {k : Nat} (hk : k < n) : u k ≤ sumN z n := by
  rw [← a.sum hn hc]; exact sumN_le_one a.pos hk
/-- the same, but cell i may be negative -/
structure AlikeW (c n i : Nat) (z : Nat → Int) (h : Nat → Bool) (u : Nat → Int) : Prop where
  pos : ∀ k, k < n → k ≠ i → 0 ≤ u k
  same : ∀ k, k < n → h k = false → u k = z k
  out : ∀ P, Out c n P u = Out c n P z
theorem Alike.weak {c n : Nat} {z : Nat → Int} {h : Nat → Bool} {u : Nat → Int} (a : Alike c n z h u) (i : Nat) : AlikeW c n i z h u := ⟨fun k hk _ => a.pos k hk, a.same, a.out⟩
/-- the cells over which something can move -/
def okC (n i : Nat) (h : Nat → Bool) (k : Nat) : Bool := decide (k < n) && h k && !decide (k = i)
/-- the cut -/
theorem cut_le {c n i : Nat} {z u v : Nat → Int} {h : Nat → Bool} (S : Nat → Bool) (au : Alike c n z h u) (av : AlikeW c n i z h v) (hi : i < n)
    (h1 : ∀ k, okC n i h k = true → S (8 + k % c) = true → S (k / c) = false → u k = 0) (h2 : ∀ k, okC n i h k = true → S (k / c) = true → S (8 + k % c) = true) :
    0 ≤ (v i - u i) * ((if S (i / c) = true then 1 else 0) - (if S (8 + i % c) = true then 1 else 0)) := by
  have e := (av.out fun x => if S x = true then 1 else 0).trans (au.out fun x => if S x = true then 1 else 0).symm
  unfold Out at e
  dsimp only at e
  have e2 : sumN (fun k => u k * ((if S (k / c) = true then 1 else 0) - (if S (8 + k % c) = true then 1 else 0)) - v k * ((if S (k / c) = true then 1 else 0) - (if S (8 + k % c) = true then 1 else 0))) n = 0 := by
    rw [sumN_sub]; omega
  rw [sumN_pick hi] at e2
  have h3 := sumN_nonneg (f := fun k => if k = i then 0 else u k * ((if S (k / c) = true then 1 else 0) - (if S (8 + k % c) = true then 1 else 0)) - v k * ((if S (k / c) = true then 1 else 0) - (if S (8 + k % c) = true then 1 else 0))) (n := n) fun k hk => by
    by_cases hki : k = i
    · simp [hki]
    · simp only [hki, if_false]
      cases hh : h k with
      | false => rw [au.same k hk hh, av.same k hk hh]; omega
      | true =>
        have ok : okC n i h k = true := by simp [okC, hk, hh, hki]
        have := av.pos k hk hki
        cases hr : S (k / c) <;> cases hc : S (8 + k % c)
        · simp
        · rw [h1 k ok hc hr]; simp; omega
        · have := h2 k ok hr; rw [hc] at this; cases this
        · simp
  rw [Int.sub_mul]
  generalize ((if S (i / c) = true then (1 : Int) else 0) - (if S (8 + i % c) = true then 1 else 0)) = d at e2 ⊢
  generalize sumN _ n = X at e2 h3
  generalize u i * d = a at e2 ⊢
  generalize v i * d = b at e2 ⊢
  omega
end Go.Proofs.Ytmkgfgnpgoegcaa
