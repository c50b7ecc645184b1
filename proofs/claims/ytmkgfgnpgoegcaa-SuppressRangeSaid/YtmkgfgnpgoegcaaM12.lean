/-
  Plain: a table whose rows and columns are exchanged has the same intervals.
-/
import Derived.Test.YtmkgfgnpgoegcaaT27
set_option linter.all false
namespace Go.Proofs.Ytmkgfgnpgoegcaa
open Go Go.W Go.RowKit

/-- the first k elements of a table whose rows and columns are exchanged (R rows, C columns before) -/
def turnL {α : Type} (R C : Nat) (l : List α) (d : α) (k : Nat) : List α := (List.range k).map fun j => l.getD (j % R * C + j / R) d
theorem turnL_length {α : Type} (R C : Nat) (l : List α) (d : α) (k : Nat) : (turnL R C l d k).length = k := by simp [turnL]
theorem turnL_succ {α : Type} (R C : Nat) (l : List α) (d : α) (k : Nat) : turnL R C l d (k + 1) = turnL R C l d k ++ [l.getD (k % R * C + k / R) d] := by simp [turnL, List.range_succ]
theorem turn_at {R p q : Nat} (hp : p < R) : (q * R + p) % R = p ∧ (q * R + p) / R = q := by
  have h := (rc_iff (c := R) (a := q) (b := p) (k := q * R + p) hp).1 rfl
  exact ⟨h.2.symm, h.1.symm⟩
theorem turn_lt {R C p q : Nat} (hp : p < R) (hq : q < C) : p * C + q < R * C := by
  have := Nat.mul_le_mul_right C (show p + 1 ≤ R by omega)
  rw [Nat.succ_mul] at this; omega
theorem sumN_split (f : Nat → Int) (m : Nat) : ∀ k, sumN f (m + k) = sumN f m + sumN (fun b => f (m + b)) k
  | 0 => by simp [sumN]
  | k + 1 => by rw [← Nat.add_assoc, sumN, sumN_split f m k, sumN]; omega
theorem sumN_grid (f : Nat → Int) (C : Nat) : ∀ R, sumN f (R * C) = sumN (fun a => sumN (fun b => f (a * C + b)) C) R
  | 0 => by simp [sumN]
  | R + 1 => by rw [Nat.succ_mul, sumN_split, sumN_grid f C R, sumN]
theorem sumN_zero (n : Nat) : sumN (fun _ => 0) n = 0 := by
  induction n with
  | zero => rfl
  | succ n ih => simp [sumN, ih]
theorem sumN_comm (g : Nat → Nat → Int) (C : Nat) : ∀ R, sumN (fun a => sumN (fun b => g a b) C) R = sumN (fun b => sumN (fun a => g a b) R) C
  | 0 => by simp [sumN, sumN_zero]
  | R + 1 => by
    rw [sumN, sumN_comm g C R, ← sumN_add]
    exact sumN_congr fun b _ => by simp only [sumN]
theorem sumN_turn {f g : Nat → Int} {R C : Nat} (h : ∀ p q, p < R → q < C → f (q * R + p) = g (p * C + q)) : sumN f (R * C) = sumN g (R * C) := by
  rw [sumN_grid g C R, Nat.mul_comm, sumN_grid f R C, ← sumN_comm (fun a b => f (b * R + a)) C R]
  exact sumN_congr fun p hp => sumN_congr fun q hq => h p q hp hq
def turnF {α : Type} (R C : Nat) (u : Nat → α) : Nat → α := fun k => u (k % R * C + k / R)
def swapP (P : Nat → Int) : Nat → Int := fun x => if x < 8 then P (8 + x) else P (x - 8)
theorem Out_turn {R C : Nat} (hR : 0 < R) (hC : 0 < C) (hR8 : R ≤ 8) (hC8 : C ≤ 8) (P u : Nat → Int) : Out R (R * C) P (turnF R C u) = -Out C (R * C) (swapP P) u := by
  have e : -Out C (R * C) (swapP P) u = sumN (fun k => u k * (swapP P (8 + k % C) - swapP P (k / C))) (R * C) := by
    unfold Out
    have : ∀ f : Nat → Int, ∀ n, -sumN f n = sumN (fun k => -f k) n := fun f n => by
      induction n with
      | zero => rfl
      | succ n ih => simp only [sumN]; omega
    rw [this]
    exact sumN_congr fun k _ => by rw [← Int.mul_neg, Int.neg_sub]
  rw [e]
  unfold Out
  refine sumN_turn fun p q hp hq => ?_
  obtain ⟨a1, a2⟩ := turn_at (q := q) hp
  obtain ⟨b1, b2⟩ := turn_at (q := p) hq
  unfold turnF swapP
  rw [a1, a2, b1, b2, if_neg (by omega), if_pos (by omega), Nat.add_sub_cancel_left]
theorem Alike.congr {c n : Nat} {z z' : Nat → Int} {h h' : Nat → Bool} {u : Nat → Int} (a : Alike c n z h u) (hz : ∀ k, k < n → z k = z' k) (hh : ∀ k, k < n → h k = h' k) : Alike c n z' h' u :=
  ⟨a.pos, fun k hk hf => (a.same k hk (by rw [hh k hk]; exact hf)).trans (hz k hk), fun P => (a.out P).trans (sumN_congr fun k hk => by rw [hz k hk])⟩
theorem turn_idx {R C k : Nat} (hk : k < R * C) : k % R < R ∧ k / R < C := by
  have hR : 0 < R := by
    rcases Nat.eq_zero_or_pos R with h | h
    · subst h; simp at hk
    · exact h
  exact ⟨Nat.mod_lt _ hR, by rw [Nat.div_lt_iff_lt_mul hR, Nat.mul_comm]; exact hk⟩
theorem Alike.turn {R C : Nat} {z u : Nat → Int} {h : Nat → Bool} (hR : 0 < R) (hC : 0 < C) (hR8 : R ≤ 8) (hC8 : C ≤ 8) (a : Alike C (R * C) z h u) : Alike R (R * C) (turnF R C z) (turnF R C h) (turnF R C u) := by
  have hlt : ∀ k, k < R * C → k % R * C + k / R < R * C := fun k hk => turn_lt (turn_idx hk).1 (turn_idx hk).2
  exact ⟨fun k hk => a.pos _ (hlt k hk), fun k hk hf => a.same _ (hlt k hk) hf, fun P => by rw [Out_turn hR hC hR8 hC8, Out_turn hR hC hR8 hC8, a.out]⟩
theorem turn_back {α : Type} {R C : Nat} (u : Nat → α) {k : Nat} (hk : k < R * C) : turnF C R (turnF R C u) k = u k := by
  have hk' : k < C * R := by rw [Nat.mul_comm]; exact hk
  obtain ⟨h1, h2⟩ := turn_idx hk'
  unfold turnF
  obtain ⟨a1, a2⟩ := turn_at (q := k % C) h2
  rw [a1, a2, Nat.div_add_mod']
/-- where a cell comes to lie -/
theorem turn_pos {α : Type} {R C : Nat} (u : Nat → α) {j : Nat} (hj : j < R * C) : turnF R C u (j % C * R + j / C) = u j := by
  have hj' : j < C * R := by rw [Nat.mul_comm]; exact hj
  obtain ⟨h1, h2⟩ := turn_idx hj'
  unfold turnF
  obtain ⟨a1, a2⟩ := turn_at (q := j % C) h2
  rw [a1, a2, Nat.div_add_mod']
theorem Exact.turn {R C j : Nat} {z : Nat → Int} {h : Nat → Bool} {lo hi : Int} (hR : 0 < R) (hC : 0 < C) (hR8 : R ≤ 8) (hC8 : C ≤ 8) (hj : j < R * C) (e : Exact C (R * C) z h j lo hi) : Exact R (R * C) (turnF R C z) (turnF R C h) (j % C * R + j / C) lo hi := by
  intro x
  rw [← e x]
  constructor
  · rintro ⟨u, a, hx⟩
    have a' : Alike R (C * R) (turnF R C z) (turnF R C h) u := by rw [Nat.mul_comm]; exact a
    have b := a'.turn hC hR hC8 hR8
    rw [Nat.mul_comm C R] at b
    refine ⟨turnF C R u, b.congr (fun k hk => turn_back z hk) (fun k hk => turn_back h hk), ?_⟩
    rw [← hx]; rfl
  · rintro ⟨u, a, hx⟩
    exact ⟨turnF R C u, a.turn hR hC hR8 hC8, by rw [turn_pos u hj]; exact hx⟩
theorem Exact.congr {c n i : Nat} {z z' : Nat → Int} {h h' : Nat → Bool} {lo hi : Int} (e : Exact c n z h i lo hi) (hz : ∀ k, k < n → z k = z' k) (hh : ∀ k, k < n → h k = h' k) : Exact c n z' h' i lo hi := by
  intro x
  rw [← e x]
  constructor
  · rintro ⟨u, a, hx⟩; exact ⟨u, a.congr (fun k hk => (hz k hk).symm) (fun k hk => (hh k hk).symm), hx⟩
  · rintro ⟨u, a, hx⟩; exact ⟨u, a.congr hz hh, hx⟩
theorem turnL_getD {α : Type} {R C : Nat} (l : List α) (d : α) {k n : Nat} (hk : k < n) : (turnL R C l d n).getD k d = turnF R C (fun j => l.getD j d) k := by
  unfold turnL turnF
  rw [List.getD_eq_getElem?_getD, List.getElem?_map, List.getElem?_range hk]; rfl
theorem turn_spans {R C : Nat} {zs : List Int} {a : List Bool} {j : Nat} {lo hi : Int} (hR : 0 < R) (hC : 0 < C) (hR8 : R ≤ 8) (hC8 : C ≤ 8) (hn : zs.length = R * C) (hj : j < zs.length) (h : XSp C zs a j lo hi) :
    XSp R (turnL R C zs 0 zs.length) (turnL R C a false zs.length) (j % C * R + j / C) lo hi := by
  obtain ⟨cn, hcn, e⟩ := h
  obtain rfl : C = cn := Int.ofNat_inj.1 hcn
  refine ⟨R, rfl, ?_⟩
  rw [turnL_length, hn]
  rw [hn] at e hj
  refine (e.turn hR hC hR8 hC8 hj).congr (fun k hk => ?_) (fun k hk => ?_)
  · exact (turnL_getD zs 0 hk).symm
  · exact (turnL_getD a false hk).symm
theorem turn_ok {R C : Nat} {zs : List Int} (hT : TblOk R C zs) : TblOk C R (turnL R C zs 0 zs.length) := by
  obtain ⟨r1, r2, c1, c2⟩ := hT.rng
  have hn : zs.length = R * C := by exact_mod_cast hT.len
  have hg : ∀ k, k < R * C → (turnL R C zs 0 (R * C)).getD k 0 = turnF R C (zF zs) k := fun k hk => turnL_getD zs 0 hk
  refine ⟨⟨by omega, by omega, by omega, by omega⟩, by rw [turnL_length, hn, Nat.mul_comm]; simp, fun k hk => ?_, ?_⟩
  · have hk2 : k < zs.length := by rw [turnL_length] at hk; exact hk
    have hk3 : k < R * C := by omega
    have h1 := hg k hk3
    rw [← hn, List.getD_eq_getElem?_getD, List.getElem?_eq_getElem hk, Option.getD_some] at h1
    rw [h1]
    have h2 := turn_lt (turn_idx hk3).1 (turn_idx hk3).2
    have h3 := hT.cells (k % R * C + k / R) (by omega)
    unfold turnF zF
    rw [List.getD_eq_getElem?_getD, List.getElem?_eq_getElem (by omega)]
    exact h3
  · rw [← sumN_list, turnL_length, hn]
    have h1 : sumN (zF (turnL R C zs 0 (R * C))) (R * C) = sumN (zF zs) (R * C) := sumN_turn fun p q hp hq => by
      have h2 : q * R + p < R * C := by rw [Nat.mul_comm R C]; exact turn_lt hq hp
      have h3 := hg _ h2
      unfold zF at h3 ⊢
      rw [h3]
      unfold turnF
      obtain ⟨a1, a2⟩ := turn_at (q := q) hp
      rw [a1, a2]
    rw [h1, ← hn, sumN_list]; exact hT.sum
end Go.Proofs.Ytmkgfgnpgoegcaa
