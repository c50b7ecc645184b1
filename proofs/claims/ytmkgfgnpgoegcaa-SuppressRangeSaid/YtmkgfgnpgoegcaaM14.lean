/-
  Plain: the search for all tables that look the same finds just these.
-/
import Derived.Test.YtmkgfgnpgoegcaaM12
set_option linter.all false
namespace Go.Proofs.Ytmkgfgnpgoegcaa
open Go Go.W Go.RowKit

/-- the sum over the hidden cells from k on that are chosen -/
def hsum (n k : Nat) (h sel : Nat → Bool) (u : Nat → Int) : Int := sumN (fun q => if (decide (k ≤ q) && h q && sel q) = true then u q else 0) n
theorem hsum_skip {n k : Nat} {h sel : Nat → Bool} {u : Nat → Int} (hk : (h k && sel k) = false) : hsum n k h sel u = hsum n (k + 1) h sel u := by
  unfold hsum
  refine sumN_congr fun q _ => ?_
  by_cases e : q = k
  · subst e
    rw [Bool.and_assoc, hk, if_neg (by simp), if_neg (by simp; intro h1; omega)]
  · have : decide (k ≤ q) = decide (k + 1 ≤ q) := by
      by_cases h1 : k ≤ q
      · rw [decide_eq_true h1, decide_eq_true (by omega)]
      · rw [decide_eq_false h1, decide_eq_false (by omega)]
    rw [this]
theorem hsum_take {n k : Nat} {h sel : Nat → Bool} {u : Nat → Int} (hn : k < n) (hk : (h k && sel k) = true) : hsum n k h sel u = u k + hsum n (k + 1) h sel u := by
  unfold hsum
  rw [sumN_pick hn, sumN_pick (f := fun q => if (decide (k + 1 ≤ q) && h q && sel q) = true then u q else 0) hn]
  have e : sumN (fun q => if q = k then 0 else if (decide (k ≤ q) && h q && sel q) = true then u q else 0) n = sumN (fun q => if q = k then 0 else if (decide (k + 1 ≤ q) && h q && sel q) = true then u q else 0) n := by
    refine sumN_congr fun q _ => ?_
    by_cases e : q = k
    · simp [e]
    · have : decide (k ≤ q) = decide (k + 1 ≤ q) := by
        by_cases h1 : k ≤ q
        · rw [decide_eq_true h1, decide_eq_true (by omega)]
        · rw [decide_eq_false h1, decide_eq_false (by omega)]
      rw [this]
  rw [e, if_pos (by rw [Bool.and_assoc, hk]; simp), if_neg (by simp; intro h1; omega)]
  omega
theorem hsum_nonneg {n k : Nat} {h sel : Nat → Bool} {u : Nat → Int} (hp : ∀ q, k ≤ q → q < n → h q = true → 0 ≤ u q) : 0 ≤ hsum n k h sel u := by
  refine sumN_nonneg fun q hq => ?_
  split
  · rename_i hh
    simp only [Bool.and_eq_true, decide_eq_true_iff] at hh
    exact hp q hh.1.1 hq hh.1.2
  · exact Int.le_refl _
theorem hsum_zero {n k : Nat} {h sel : Nat → Bool} {u : Nat → Int} (hp : ∀ q, k ≤ q → q < n → (h q && sel q) = false) : hsum n k h sel u = 0 := by
  unfold hsum
  rw [sumN_congr (g := fun _ => 0) fun q hq => ?_, sumN_zero]
  by_cases h1 : k ≤ q
  · rw [Bool.and_assoc, hp q h1 hq]; simp
  · rw [decide_eq_false h1]; simp
theorem hsum_congr {n k : Nat} {h sel : Nat → Bool} {u v : Nat → Int} (hp : ∀ q, k ≤ q → u q = v q) : hsum n k h sel u = hsum n k h sel v := by
  refine sumN_congr fun q _ => ?_
  split
  · rename_i hh
    simp only [Bool.and_eq_true, decide_eq_true_iff] at hh
    exact hp q hh.1.1
  · rfl
def rowS (c r : Nat) : Nat → Bool := fun q => decide (q / c = r)
def colS (c d : Nat) : Nat → Bool := fun q => decide (q % c = d)
structure Comp (c n k : Nat) (h : Nat → Bool) (rows sums u : Nat → Int) : Prop where
  pos : ∀ q, k ≤ q → q < n → h q = true → 0 ≤ u q
  row : ∀ r, hsum n k h (rowS c r) u = rows r
  col : ∀ d, hsum n k h (colS c d) u = sums d
/-- nothing is left where no hidden cell is left -/
structure SInv (c n k : Nat) (h : Nat → Bool) (rows sums : Nat → Int) : Prop where
  row : ∀ r, (∀ q, k ≤ q → q < n → (h q && rowS c r q) = false) → rows r = 0
  col : ∀ d, (∀ q, k ≤ q → q < n → (h q && colS c d q) = false) → sums d = 0
  rpos : ∀ r, 0 ≤ rows r
  cpos : ∀ d, 0 ≤ sums d
def Seen (c n k : Nat) (h : Nat → Bool) (rows sums : Nat → Int) (at_ : Nat) (val x : Int) : Prop := ∃ u, Comp c n k h rows sums u ∧ x = (if (decide (k ≤ at_) && h at_) = true then u at_ else val)
section
variable {c n k at_ : Nat} {h : Nat → Bool} {rows sums : Nat → Int} {val x : Int}
theorem Seen.fin (hI : SInv c n k h rows sums) (hk : n ≤ k) (hat : at_ < n) : Seen c n k h rows sums at_ val x ↔ x = val := by
  have e : (decide (k ≤ at_) && h at_) = false := by rw [decide_eq_false (by omega)]; rfl
  constructor
  · rintro ⟨u, _, hx⟩; rw [e] at hx; simpa using hx
  · intro hx
    refine ⟨fun _ => 0, ⟨fun q h1 h2 => by omega, fun r => ?_, fun d => ?_⟩, by rw [e]; simpa using hx⟩
    · rw [hsum_zero fun q h1 h2 => by omega, hI.row r fun q h1 h2 => by omega]
    · rw [hsum_zero fun q h1 h2 => by omega, hI.col d fun q h1 h2 => by omega]
theorem at_skip (hk : h k = false) : (decide (k ≤ at_) && h at_) = (decide (k + 1 ≤ at_) && h at_) := by
  by_cases e : at_ = k
  · subst e; simp [hk]
  · have : decide (k ≤ at_) = decide (k + 1 ≤ at_) := by
      by_cases h1 : k ≤ at_
      · rw [decide_eq_true h1, decide_eq_true (by omega)]
      · rw [decide_eq_false h1, decide_eq_false (by omega)]
    rw [this]
theorem Seen.skip (hk : h k = false) : Seen c n k h rows sums at_ val x ↔ Seen c n (k + 1) h rows sums at_ val x := by
  have e : ∀ sel : Nat → Bool, (h k && sel k) = false := fun sel => by rw [hk]; rfl
  unfold Seen
  rw [at_skip hk]
  constructor
  · rintro ⟨u, C, hx⟩
    exact ⟨u, ⟨fun q h1 => C.pos q (by omega), fun r => by rw [← hsum_skip (e _)]; exact C.row r, fun d => by rw [← hsum_skip (e _)]; exact C.col d⟩, hx⟩
  · rintro ⟨u, C, hx⟩
    refine ⟨u, ⟨fun q h1 h2 h3 => C.pos q ?_ h2 h3, fun r => by rw [hsum_skip (e _)]; exact C.row r, fun d => by rw [hsum_skip (e _)]; exact C.col d⟩, hx⟩
    have : q ≠ k := fun e => by subst e; rw [hk] at h3; cases h3
    omega
theorem SInv.skip (hk : h k = false) (hI : SInv c n k h rows sums) : SInv c n (k + 1) h rows sums :=
  { hI with
    row := fun r hr => hI.row r fun q h1 h2 => by
      by_cases e : q = k
      · subst e; rw [hk]; rfl
      · exact hr q (by omega) h2
    col := fun r hr => hI.col r fun q h1 h2 => by
      by_cases e : q = k
      · subst e; rw [hk]; rfl
      · exact hr q (by omega) h2 }
/-- no hidden cell of the chosen ones comes behind k -/
def lastB (n k : Nat) (h sel : Nat → Bool) : Prop := ∀ q, k + 1 ≤ q → q < n → (h q && sel q) = false
structure VOk (c n k : Nat) (h : Nat → Bool) (rows sums : Nat → Int) (v : Int) : Prop where
  v0 : 0 ≤ v
  vr : v ≤ rows (k / c)
  vc : v ≤ sums (k % c)
  lr : lastB n k h (rowS c (k / c)) → rows (k / c) ≤ v
  lc : lastB n k h (colS c (k % c)) → sums (k % c) ≤ v
theorem SInv.step (hk : k < n) (hI : SInv c n k h rows sums) {v : Int} (hv : VOk c n k h rows sums v) : SInv c n (k + 1) h (updF rows (k / c) (rows (k / c) - v)) (updF sums (k % c) (sums (k % c) - v)) where
  row r hr := by
    by_cases e : r = k / c
    · subst e
      rw [updF_same]
      have := hv.lr hr
      have := hv.vr
      omega
    · rw [updF_other rows _ e]
      refine hI.row r fun q h1 h2 => ?_
      by_cases e2 : q = k
      · subst e2
        have : rowS c r q = false := decide_eq_false fun e3 => e e3.symm
        rw [this, Bool.and_false]
      · exact hr q (by omega) h2
  col r hr := by
    by_cases e : r = k % c
    · subst e
      rw [updF_same]
      have := hv.lc hr
      have := hv.vc
      omega
    · rw [updF_other sums _ e]
      refine hI.col r fun q h1 h2 => ?_
      by_cases e2 : q = k
      · subst e2
        have : colS c r q = false := decide_eq_false fun e3 => e e3.symm
        rw [this, Bool.and_false]
      · exact hr q (by omega) h2
  rpos r := by
    by_cases e : r = k / c
    · subst e; rw [updF_same]; have := hv.vr; omega
    · rw [updF_other rows _ e]; exact hI.rpos r
  cpos r := by
    by_cases e : r = k % c
    · subst e; rw [updF_same]; have := hv.vc; omega
    · rw [updF_other sums _ e]; exact hI.cpos r
theorem Seen.step (hk : k < n) (hh : h k = true) : Seen c n k h rows sums at_ val x ↔
    ∃ v, VOk c n k h rows sums v ∧ Seen c n (k + 1) h (updF rows (k / c) (rows (k / c) - v)) (updF sums (k % c) (sums (k % c) - v)) at_ (if k = at_ then v else val) x := by
  have er : (h k && rowS c (k / c) k) = true := by rw [hh]; exact decide_eq_true rfl
  have ec : (h k && colS c (k % c) k) = true := by rw [hh]; exact decide_eq_true rfl
  have er' : ∀ r, r ≠ k / c → (h k && rowS c r k) = false := fun r hr => by
    have : rowS c r k = false := decide_eq_false fun e => hr e.symm
    rw [this, Bool.and_false]
  have ec' : ∀ r, r ≠ k % c → (h k && colS c r k) = false := fun r hr => by
    have : colS c r k = false := decide_eq_false fun e => hr e.symm
    rw [this, Bool.and_false]
  constructor
  · rintro ⟨u, C, hx⟩
    have hr := C.row (k / c)
    have hc := C.col (k % c)
    rw [hsum_take hk er] at hr
    rw [hsum_take hk ec] at hc
    have hp : ∀ q, k + 1 ≤ q → q < n → h q = true → 0 ≤ u q := fun q h1 => C.pos q (by omega)
    have n1 := hsum_nonneg (sel := rowS c (k / c)) hp
    have n2 := hsum_nonneg (sel := colS c (k % c)) hp
    refine ⟨u k, ⟨C.pos k (Nat.le_refl _) hk hh, by omega, by omega, fun hl => ?_, fun hl => ?_⟩, u, ⟨hp, fun r => ?_, fun d => ?_⟩, ?_⟩
    · have := hsum_zero (u := u) hl; omega
    · have := hsum_zero (u := u) hl; omega
    · by_cases e : r = k / c
      · subst e; rw [updF_same]; omega
      · rw [updF_other rows _ e, ← C.row r, hsum_skip (er' r e)]
    · by_cases e : d = k % c
      · subst e; rw [updF_same]; omega
      · rw [updF_other sums _ e, ← C.col d, hsum_skip (ec' d e)]
    · rw [hx]
      by_cases e : k = at_
      · subst e; simp [hh]
      · have : decide (k ≤ at_) = decide (k + 1 ≤ at_) := by
          by_cases h1 : k ≤ at_
          · rw [decide_eq_true h1, decide_eq_true (by omega)]
          · rw [decide_eq_false h1, decide_eq_false (by omega)]
        rw [if_neg e, this]
  · rintro ⟨v, hv, u, C, hx⟩
    have eu : ∀ sel : Nat → Bool, hsum n (k + 1) h sel (updF u k v) = hsum n (k + 1) h sel u := fun sel => hsum_congr fun q hq => updF_other u v (by omega)
    refine ⟨updF u k v, ⟨fun q h1 h2 h3 => ?_, fun r => ?_, fun d => ?_⟩, ?_⟩
    · by_cases e : q = k
      · subst e; rw [updF_same]; exact hv.v0
      · rw [updF_other u v e]; exact C.pos q (by omega) h2 h3
    · by_cases e : r = k / c
      · subst e
        have := C.row (k / c)
        rw [updF_same] at this
        rw [hsum_take hk er, updF_same, eu, this]; omega
      · have := C.row r
        rw [updF_other rows _ e] at this
        rw [hsum_skip (er' r e), eu, this]
    · by_cases e : d = k % c
      · subst e
        have := C.col (k % c)
        rw [updF_same] at this
        rw [hsum_take hk ec, updF_same, eu, this]; omega
      · have := C.col d
        rw [updF_other sums _ e] at this
        rw [hsum_skip (ec' d e), eu, this]
    · rw [hx]
      by_cases e : k = at_
      · subst e; rw [decide_eq_false (show ¬ k + 1 ≤ k by omega)]; simp [hh, updF_same]
      · have : decide (k ≤ at_) = decide (k + 1 ≤ at_) := by
          by_cases h1 : k ≤ at_
          · rw [decide_eq_true h1, decide_eq_true (by omega)]
          · rw [decide_eq_false h1, decide_eq_false (by omega)]
        rw [if_neg e, this, updF_other u v (fun e2 => e e2.symm)]
end

/-! ### the search and the tables that look the same -/
theorem sel_sum {d f : Nat → Int} {n : Nat} {key : Nat → Nat} (hk : ∀ q, q < n → key q < 8) (hz : ∀ r, sumN (fun q => if key q = r then d q else 0) n = 0) : sumN (fun q => d q * f (key q)) n = 0 := by
  have e : sumN (fun q => d q * f (key q)) n = sumN (fun q => sumN (fun r => if key q = r then d q * f r else 0) 8) n := by
    refine sumN_congr fun q hq => ?_
    have := hk q hq
    rw [sumN_pick (f := fun r => if key q = r then d q * f r else 0) this, if_pos rfl]
    rw [sumN_congr (g := fun _ => 0) fun r _ => ?_, sumN_zero]
    · omega
    · split
      · rfl
      · rename_i h; rw [if_neg (fun e => h e.symm)]
  rw [e, sumN_comm (fun q r => if key q = r then d q * f r else 0) 8 n]
  rw [sumN_congr (g := fun _ => 0) fun r _ => ?_, sumN_zero]
  have h1 : sumN (fun q => if key q = r then d q * f r else 0) n = f r * sumN (fun q => if key q = r then d q else 0) n := by
    have : ∀ m, sumN (fun q => if key q = r then d q * f r else 0) m = f r * sumN (fun q => if key q = r then d q else 0) m := fun m => by
      induction m with
      | zero => simp [sumN]
      | succ m ih =>
        simp only [sumN, ih, Int.mul_add]
        split
        · rw [Int.mul_comm (d m)]
        · simp
    exact this n
  rw [h1, hz r, Int.mul_zero]
theorem seen_alike {c n i : Nat} {z : Nat → Int} {h : Nat → Bool} {x : Int} (hS : Shape c n z) (hi : i < n) :
    Seen c n 0 h (fun r => hsum n 0 h (rowS c r) z) (fun d => hsum n 0 h (colS c d) z) i (z i) x ↔ ∃ u, Alike c n z h u ∧ u i = x := by
  have e0 : (decide (0 ≤ i) && h i) = h i := by simp
  have ekey : ∀ (sel : Nat → Bool) (u v : Nat → Int), hsum n 0 h sel u - hsum n 0 h sel v = sumN (fun q => if sel q = true then (if h q = true then u q - v q else 0) else 0) n := fun sel u v => by
    unfold hsum
    rw [← sumN_sub]
    refine sumN_congr fun q _ => ?_
    cases h q <;> cases sel q <;> simp
  constructor
  · rintro ⟨u, C, hx⟩
    refine ⟨fun q => if h q = true then u q else z q, ⟨fun q hq => ?_, fun q hq hf => by simp [hf], fun P => ?_⟩, ?_⟩
    · show 0 ≤ (if h q = true then u q else z q)
      split
      · rename_i hh; exact C.pos q (by omega) hq hh
      · exact hS.pos q hq
    · have key : Out c n P (fun q => if h q = true then u q else z q) - Out c n P z = 0 := by
        unfold Out
        rw [← sumN_sub]
        have e1 : sumN (fun k => (if h k = true then u k else z k) * (P (k / c) - P (8 + k % c)) - z k * (P (k / c) - P (8 + k % c))) n =
            sumN (fun q => (if h q = true then u q - z q else 0) * P (q / c)) n - sumN (fun q => (if h q = true then u q - z q else 0) * (fun d => P (8 + d)) (q % c)) n := by
          rw [← sumN_sub]
          refine sumN_congr fun q _ => ?_
          cases h q <;> simp [Int.mul_sub, Int.sub_mul]
          omega
        have a1 : sumN (fun q => (if h q = true then u q - z q else 0) * P (q / c)) n = 0 := sel_sum (f := P) (key := fun q => q / c) (fun q hq => (hS.row hq).1) fun r => by
          have h1 := ekey (rowS c r) u z
          rw [C.row r, Int.sub_self] at h1
          exact (sumN_congr fun q _ => by simp only [rowS, decide_eq_true_iff]).trans h1.symm
        have a2 : sumN (fun q => (if h q = true then u q - z q else 0) * (fun d => P (8 + d)) (q % c)) n = 0 := sel_sum (f := fun d => P (8 + d)) (key := fun q => q % c) (fun q hq => (hS.row hq).2) fun d => by
          have h1 := ekey (colS c d) u z
          rw [C.col d, Int.sub_self] at h1
          exact (sumN_congr fun q _ => by simp only [colS, decide_eq_true_iff]).trans h1.symm
        rw [e1, a1, a2]; rfl
      omega
    · rw [hx, e0]
  · rintro ⟨u, a, rfl⟩
    have hd : ∀ (sel : Nat → Bool), hsum n 0 h sel u - hsum n 0 h sel z = sumN (fun q => if sel q = true then u q - z q else 0) n := fun sel => by
      rw [ekey]
      refine sumN_congr fun q hq => ?_
      cases hh : h q with
      | true => simp
      | false => rw [a.same q hq hh]; simp
    refine ⟨u, ⟨fun q _ hq _ => a.pos q hq, fun r => ?_, fun d => ?_⟩, ?_⟩
    · by_cases hr : r < 8
      · have h1 := a.out (fun y => if y = r then 1 else 0)
        unfold Out at h1
        dsimp only at h1
        have h2 := hd (rowS c r)
        have h3 : sumN (fun q => if rowS c r q = true then u q - z q else 0) n = 0 := by
          have : sumN (fun q => if rowS c r q = true then u q - z q else 0) n = sumN (fun k => u k * ((if k / c = r then 1 else 0) - (if 8 + k % c = r then 1 else 0))) n - sumN (fun k => z k * ((if k / c = r then 1 else 0) - (if 8 + k % c = r then 1 else 0))) n := by
            rw [← sumN_sub]
            refine sumN_congr fun q _ => ?_
            rw [if_neg (show ¬ 8 + q % c = r by omega)]
            unfold rowS
            by_cases e : q / c = r <;> simp [e]
          rw [this, h1]; omega
        omega
      · have h2 := hd (rowS c r)
        have h3 : sumN (fun q => if rowS c r q = true then u q - z q else 0) n = 0 := by
          rw [sumN_congr (g := fun _ => 0) fun q hq => ?_, sumN_zero]
          have := (hS.row hq).1
          unfold rowS
          rw [if_neg (by simp; omega)]
        omega
    · by_cases hr : d < 8
      · have h1 := a.out (fun y => if y = 8 + d then 1 else 0)
        unfold Out at h1
        dsimp only at h1
        have h2 := hd (colS c d)
        have h3 : sumN (fun q => if colS c d q = true then u q - z q else 0) n = 0 := by
          have : sumN (fun q => if colS c d q = true then u q - z q else 0) n = sumN (fun k => z k * ((if k / c = 8 + d then 1 else 0) - (if 8 + k % c = 8 + d then 1 else 0))) n - sumN (fun k => u k * ((if k / c = 8 + d then 1 else 0) - (if 8 + k % c = 8 + d then 1 else 0))) n := by
            rw [← sumN_sub]
            refine sumN_congr fun q hq => ?_
            have := (hS.row hq).1
            rw [if_neg (show ¬ q / c = 8 + d by omega)]
            unfold colS
            by_cases e : q % c = d
            · simp [e]; omega
            · have e2 : ¬ 8 + q % c = 8 + d := by omega
              rw [if_neg e2]; simp [e]
          rw [this, h1]; omega
        omega
      · have h2 := hd (colS c d)
        have h3 : sumN (fun q => if colS c d q = true then u q - z q else 0) n = 0 := by
          rw [sumN_congr (g := fun _ => 0) fun q hq => ?_, sumN_zero]
          have := (hS.row hq).2
          unfold colS
          rw [if_neg (by simp; omega)]
        omega
    · rw [e0]
      cases hh : h i with
      | true => simp
      | false => rw [a.same i hi hh]; simp
end Go.Proofs.Ytmkgfgnpgoegcaa
