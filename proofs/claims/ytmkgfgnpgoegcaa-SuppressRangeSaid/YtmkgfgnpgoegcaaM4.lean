/-
  Plain: tables that look the same; a push along a chain moves from one to another; a cut shows that a cell cannot grow or shrink.
-/
import Derived.Test.YtmkgfgnpgoegcaaT23
set_option linter.all false
namespace Go.Proofs.Ytmkgfgnpgoegcaa
open Go Go.W Go.RowKit

def sumN (f : Nat → Int) : Nat → Int
  | 0 => 0
  | n + 1 => sumN f n + f n
theorem sumN_congr {f g : Nat → Int} : ∀ {n : Nat}, (∀ k, k < n → f k = g k) → sumN f n = sumN g n
  | 0, _ => rfl
  | n + 1, h => by rw [sumN, sumN, sumN_congr fun k hk => h k (by omega), h n (by omega)]
theorem sumN_add (f g : Nat → Int) : ∀ n, sumN (fun k => f k + g k) n = sumN f n + sumN g n
  | 0 => rfl
  | n + 1 => by simp only [sumN, sumN_add f g n]; omega
theorem sumN_sub (f g : Nat → Int) : ∀ n, sumN (fun k => f k - g k) n = sumN f n - sumN g n
  | 0 => rfl
  | n + 1 => by simp only [sumN, sumN_sub f g n]; omega
theorem sumN_nonneg {f : Nat → Int} : ∀ {n : Nat}, (∀ k, k < n → 0 ≤ f k) → 0 ≤ sumN f n
  | 0, _ => by simp [sumN]
  | n + 1, h => by
    have h1 := sumN_nonneg (f := f) (n := n) fun k hk => h k (by omega)
    have h2 := h n (by omega)
    simp only [sumN]; omega
theorem sumN_le_one {f : Nat → Int} {n k : Nat} (h : ∀ k, k < n → 0 ≤ f k) (hk : k < n) : f k ≤ sumN f n := by
  induction n with
  | zero => omega
  | succ n ih =>
    have h1 := sumN_nonneg (f := f) (n := n) fun k hk => h k (by omega)
    have h2 := h n (by omega)
    simp only [sumN]
    by_cases e : k = n
    · subst e; omega
    · have := ih (fun k hk => h k (by omega)) (by omega); omega
/-- one term apart -/
theorem sumN_pick {f : Nat → Int} {n i : Nat} (hi : i < n) : sumN f n = sumN (fun k => if k = i then 0 else f k) n + f i := by
  induction n with
  | zero => omega
  | succ n ih =>
    simp only [sumN]
    by_cases e : i = n
    · subst e
      rw [sumN_congr (f := fun k => if k = i then 0 else f k) (g := f) fun k hk => if_neg (by omega)]
      simp
    · rw [ih (by omega), if_neg (fun h => e h.symm)]; omega
def updF (u : Nat → Int) (i : Nat) (v : Int) : Nat → Int := fun k => if k = i then v else u k
theorem updF_same (u : Nat → Int) (i : Nat) (v : Int) : updF u i v i = v := by simp [updF]
theorem updF_other (u : Nat → Int) {i k : Nat} (v : Int) (h : k ≠ i) : updF u i v k = u k := by simp [updF, h]
/-- what goes out of the nodes by a potential: rows are the nodes from 0, columns those from 8 -/
def Out (c n : Nat) (P : Nat → Int) (u : Nat → Int) : Int := sumN (fun k => u k * (P (k / c) - P (8 + k % c))) n
theorem Out_upd {c n i : Nat} (P u : Nat → Int) (v : Int) (hi : i < n) : Out c n P (updF u i v) = Out c n P u + (v - u i) * (P (i / c) - P (8 + i % c)) := by
  unfold Out
  rw [sumN_pick hi, sumN_pick (f := fun k => u k * (P (k / c) - P (8 + k % c))) hi]
  have e : sumN (fun k => if k = i then 0 else updF u i v k * (P (k / c) - P (8 + k % c))) n = sumN (fun k => if k = i then 0 else u k * (P (k / c) - P (8 + k % c))) n :=
    sumN_congr fun k _ => by
      by_cases h : k = i
      · simp [h]
      · rw [if_neg h, if_neg h, updF_other u v h]
  rw [e, updF_same, Int.sub_mul]; omega
structure Alike (c n : Nat) (z : Nat → Int) (h : Nat → Bool) (u : Nat → Int) : Prop where
  pos : ∀ k, k < n → 0 ≤ u k
  same : ∀ k, k < n → h k = false → u k = z k
  out : ∀ P, Out c n P u = Out c n P z
theorem Alike.refl {c n : Nat} {z : Nat → Int} {h : Nat → Bool} (hz : ∀ k, k < n → 0 ≤ z k) : Alike c n z h z := ⟨hz, fun _ _ _ => rfl, fun _ => rfl⟩
theorem Alike.sum {c n : Nat} {z : Nat → Int} {h : Nat → Bool} {u : Nat → Int} (a : Alike c n z h u) (hn : n ≤ 8 * c) (hc : 0 < c) : sumN u n = sumN z n := by
  have := a.out (fun x => if x < 8 then 1 else 0)
  unfold Out at this
  have e : ∀ w : Nat → Int, sumN (fun k => w k * ((if k / c < 8 then 1 else 0) - (if 8 + k % c < 8 then 1 else 0))) n = sumN w n := fun w => sumN_congr fun k hk => by
    have h1 : k / c < 8 := by rw [Nat.div_lt_iff_lt_mul hc]; omega
    rw [if_pos h1, if_neg (by omega)]; omega
  rw [e u, e z] at this; exact this
theorem Alike.le {c n : Nat} {z : Nat → Int} {h : Nat → Bool} {u : Nat → Int} (a : Alike c n z h u) (hn : n ≤ 8 * c) (hc : 0 < c) {k : Nat} (hk : k < n) : u k ≤ sumN z n := by
  rw [← a.sum hn hc]; exact sumN_le_one a.pos hk
/-- the same, but cell i may be negative -/
structure AlikeW (c n i : Nat) (z : Nat → Int) (h : Nat → Bool) (u : Nat → Int) : Prop where
  pos : ∀ k, k < n → k ≠ i → 0 ≤ u k
  same : ∀ k, k < n → h k = false → u k = z k
  out : ∀ P, Out c n P u = Out c n P z
theorem Alike.weak {c n : Nat} {z : Nat → Int} {h : Nat → Bool} {u : Nat → Int} (a : Alike c n z h u) (i : Nat) : AlikeW c n i z h u := ⟨fun k hk _ => a.pos k hk, a.same, a.out⟩
/-- the cells over which something can move -/
def okC (n i : Nat) (h : Nat → Bool) (k : Nat) : Bool := decide (k < n) && h k && !decide (k = i)
/-- the cut -/
theorem cut_le {c n i : Nat} {z u v : Nat → Int} {h : Nat → Bool} (S : Nat → Bool) (au : Alike c n z h u) (av : AlikeW c n i z h v) (hi : i < n)
    (h1 : ∀ k, okC n i h k = true → S (8 + k % c) = true → S (k / c) = false → u k = 0) (h2 : ∀ k, okC n i h k = true → S (k / c) = true → S (8 + k % c) = true) :
    0 ≤ (v i - u i) * ((if S (i / c) = true then 1 else 0) - (if S (8 + i % c) = true then 1 else 0)) := by
  have e := (av.out fun x => if S x = true then 1 else 0).trans (au.out fun x => if S x = true then 1 else 0).symm
  unfold Out at e
  dsimp only at e
  have e2 : sumN (fun k => u k * ((if S (k / c) = true then 1 else 0) - (if S (8 + k % c) = true then 1 else 0)) - v k * ((if S (k / c) = true then 1 else 0) - (if S (8 + k % c) = true then 1 else 0))) n = 0 := by
    rw [sumN_sub]; omega
  rw [sumN_pick hi] at e2
  have h3 := sumN_nonneg (f := fun k => if k = i then 0 else u k * ((if S (k / c) = true then 1 else 0) - (if S (8 + k % c) = true then 1 else 0)) - v k * ((if S (k / c) = true then 1 else 0) - (if S (8 + k % c) = true then 1 else 0))) (n := n) fun k hk => by
    by_cases hki : k = i
    · simp [hki]
    · simp only [hki, if_false]
      cases hh : h k with
      | false => rw [au.same k hk hh, av.same k hk hh]; omega
      | true =>
        have ok : okC n i h k = true := by simp [okC, hk, hh, hki]
        have := av.pos k hk hki
        cases hr : S (k / c) <;> cases hc : S (8 + k % c)
        · simp
        · rw [h1 k ok hc hr]; simp; omega
        · have := h2 k ok hr; rw [hc] at this; cases this
        · simp
  rw [Int.sub_mul]
  generalize ((if S (i / c) = true then (1 : Int) else 0) - (if S (8 + i % c) = true then 1 else 0)) = d at e2 ⊢
  generalize sumN _ n = X at e2 h3
  generalize u i * d = a at e2 ⊢
  generalize v i * d = b at e2 ⊢
  omega
end Go.Proofs.Ytmkgfgnpgoegcaa

/-
  Plain: the reference's matrix holds a table; its pushes move from table to table.
-/
set_option linter.all false
namespace Go.Proofs.Ytmkgfgnpgoegcaa
open Go Go.W Go.RowKit

theorem rc_iff {c a b k : Nat} (hb : b < c) : a * c + b = k ↔ a = k / c ∧ b = k % c := by
  constructor
  · rintro rfl
    have h1 : (a * c + b) / c = a := by
      rw [Nat.mul_comm, Nat.mul_add_div (by omega), Nat.div_eq_of_lt hb]; rfl
    have h2 : (a * c + b) % c = b := by
      rw [Nat.mul_comm, Nat.mul_add_mod, Nat.mod_eq_of_lt hb]
    exact ⟨h1.symm, h2.symm⟩
  · rintro ⟨rfl, rfl⟩
    exact Nat.div_add_mod' k c
def resid (c n i : Nat) (h : Nat → Bool) (z u : Nat → Int) (a b : Nat) : Int :=
  if a < 8 then (if 8 ≤ b ∧ b - 8 < c ∧ okC n i h (a * c + (b - 8)) = true then 131072 + z (a * c + (b - 8)) - u (a * c + (b - 8)) else 0)
  else (if b < 8 ∧ a - 8 < c ∧ okC n i h (b * c + (a - 8)) = true then u (b * c + (a - 8)) else 0)
section
variable {c n i : Nat} {h : Nat → Bool} {z u : Nat → Int}
theorem resid_cell {a b : Nat} (hne : resid c n i h z u a b ≠ 0) : ∃ k, okC n i h k = true ∧ ((a = k / c ∧ b = 8 + k % c ∧ resid c n i h z u a b = 131072 + z k - u k) ∨ (a = 8 + k % c ∧ b = k / c ∧ resid c n i h z u a b = u k)) := by
  unfold resid at hne ⊢
  split at hne
  · split at hne
    · rename_i h1 h2
      obtain ⟨e1, e2⟩ := (rc_iff (k := a * c + (b - 8)) h2.2.1).1 rfl
      refine ⟨a * c + (b - 8), h2.2.2, .inl ⟨e1, by omega, ?_⟩⟩
      rw [if_pos h1, if_pos h2]
    · exact absurd rfl hne
  · split at hne
    · rename_i h1 h2
      obtain ⟨e1, e2⟩ := (rc_iff (k := b * c + (a - 8)) h2.2.1).1 rfl
      refine ⟨b * c + (a - 8), h2.2.2, .inr ⟨by omega, e1, ?_⟩⟩
      rw [if_neg h1, if_pos h2]
    · exact absurd rfl hne
theorem resid_fwd {k : Nat} (hc : 0 < c) (hk : okC n i h k = true) (h8 : k / c < 8) : resid c n i h z u (k / c) (8 + k % c) = 131072 + z k - u k := by
  have e : k / c * c + (8 + k % c - 8) = k := by rw [Nat.add_sub_cancel_left]; exact Nat.div_add_mod' k c
  have := Nat.mod_lt k hc
  unfold resid
  rw [if_pos h8, e, if_pos ⟨by omega, by omega, hk⟩]
theorem resid_bwd {k : Nat} (hc : 0 < c) (hk : okC n i h k = true) (h8 : k / c < 8) : resid c n i h z u (8 + k % c) (k / c) = u k := by
  have e : k / c * c + (8 + k % c - 8) = k := by rw [Nat.add_sub_cancel_left]; exact Nat.div_add_mod' k c
  have := Nat.mod_lt k hc
  unfold resid
  rw [if_neg (by omega), e, if_pos ⟨h8, by omega, hk⟩]
theorem resid_upd {k : Nat} {v : Int} (hc : 0 < c) (hk : okC n i h k = true) (h8 : k / c < 8) (a b : Nat) : resid c n i h z (updF u k v) a b = if a = k / c ∧ b = 8 + k % c then 131072 + z k - v else if a = 8 + k % c ∧ b = k / c then v else resid c n i h z u a b := by
  by_cases h1 : a = k / c ∧ b = 8 + k % c
  · obtain ⟨rfl, rfl⟩ := h1
    rw [resid_fwd hc hk h8, if_pos ⟨rfl, rfl⟩, updF_same]
  · rw [if_neg h1]
    by_cases h2 : a = 8 + k % c ∧ b = k / c
    · obtain ⟨rfl, rfl⟩ := h2
      rw [resid_bwd hc hk h8, if_pos ⟨rfl, rfl⟩, updF_same]
    · rw [if_neg h2]
      unfold resid
      split
      · split
        · rename_i h3 h4
          rw [updF_other u v]
          intro e
          obtain ⟨e1, e2⟩ := (rc_iff h4.2.1).1 e
          exact h1 ⟨e1, by omega⟩
        · rfl
      · split
        · rename_i h3 h4
          rw [updF_other u v]
          intro e
          obtain ⟨e1, e2⟩ := (rc_iff h4.2.1).1 e
          exact h2 ⟨by omega, e1⟩
        · rfl
end
structure Fits (c n i : Nat) (h : Nat → Bool) (z : Nat → Int) (ms : List Int) (u : Nat → Int) : Prop where
  len : ms.length = 256
  at_ : ∀ a b, a < 16 → b < 16 → mget ms a b = resid c n i h z u a b
theorem fits_exists (c n i : Nat) (h : Nat → Bool) (z u : Nat → Int) : ∃ ms, Fits c n i h z ms u := by
  refine ⟨(List.range 256).map fun e => resid c n i h z u (e / 16) (e % 16), by simp, fun a b ha hb => ?_⟩
  unfold mget
  have e1 : (0 + a * 16 + b * 1) / 16 = a := by omega
  have e2 : (0 + a * 16 + b * 1) % 16 = b := by omega
  rw [List.getD_eq_getElem?_getD, List.getElem?_map, List.getElem?_range (by omega)]
  simp only [Option.map_some, Option.getD_some, e1, e2]
/-- the reference's first matrix holds the table itself -/
theorem fits_net {c n i : Nat} {zs : List Int} {hid : List Bool} (hc : 0 < c) (hc8 : c ≤ 8) (hn : n ≤ 8 * c) (k : Nat) (hk : k ≤ n) : Fits c k i (fun k => hid.getD k false) (fun k => zs.getD k 0) (netM c zs hid i k) (fun k => zs.getD k 0) := by
  induction k with
  | zero =>
    refine ⟨netM_length .., fun a b ha hb => ?_⟩
    have e1 : mget (netM c zs hid i 0) a b = 0 := by
      unfold mget netM zero256
      rw [List.getD_eq_getElem?_getD, List.getElem?_replicate]; split <;> rfl
    rw [e1]
    unfold resid okC
    split <;> simp
  | succ k ih =>
    have ih := ih (by omega)
    refine ⟨netM_length .., fun a b ha hb => ?_⟩
    have h8 : k / c < 8 := by rw [Nat.div_lt_iff_lt_mul hc]; omega
    have hm := Nat.mod_lt k hc
    have hl := netM_length c zs hid i k
    by_cases hh : netCond hid i k = true
    · have ok : okC (k + 1) i (fun k => hid.getD k false) k = true := by
        simp only [netCond, Bool.and_eq_true, Bool.not_eq_true', decide_eq_false_iff_not] at hh
        simp only [okC, Bool.and_eq_true, decide_eq_true_iff, Bool.not_eq_true', decide_eq_false_iff_not]
        exact ⟨⟨by omega, hh.1⟩, fun e => hh.2 (by rw [e])⟩
      rw [netM, if_pos hh, mget_mset (by rw [mset_length]; exact hl) (by omega) (by omega) hb, mget_mset hl (by omega) (by omega) hb]
      by_cases h1 : a = 8 + k % c ∧ b = k / c
      · obtain ⟨rfl, rfl⟩ := h1
        rw [if_pos ⟨rfl, rfl⟩, resid_bwd hc ok h8]
      · rw [if_neg h1]
        by_cases h2 : a = k / c ∧ b = 8 + k % c
        · obtain ⟨rfl, rfl⟩ := h2
          rw [if_pos ⟨rfl, rfl⟩, resid_fwd hc ok h8]; omega
        · rw [if_neg h2, ih.at_ a b ha hb]
          unfold resid
          have key : ∀ a' b' : Nat, b' < c → ¬ (a' = k / c ∧ b' = k % c) → okC (k + 1) i (fun k => hid.getD k false) (a' * c + b') = okC k i (fun k => hid.getD k false) (a' * c + b') := fun a' b' hb' hne => by
            have : a' * c + b' ≠ k := fun e => hne ((rc_iff hb').1 e)
            have : (a' * c + b' < k + 1) = (a' * c + b' < k) := by apply propext; omega
            simp only [okC, this]
          split
          · by_cases h3 : 8 ≤ b ∧ b - 8 < c
            · rw [key a (b - 8) h3.2 (fun e => h2 ⟨e.1, by omega⟩)]
            · rw [if_neg (fun e => h3 ⟨e.1, e.2.1⟩), if_neg (fun e => h3 ⟨e.1, e.2.1⟩)]
          · by_cases h3 : a - 8 < c
            · rw [key b (a - 8) h3 (fun e => h1 ⟨by omega, e.1⟩)]
            · rw [if_neg (fun e => h3 e.2.1), if_neg (fun e => h3 e.2.1)]
    · rw [netM, if_neg hh, ih.at_ a b ha hb]
      unfold resid
      have key : ∀ q : Nat, okC (k + 1) i (fun k => hid.getD k false) q = okC k i (fun k => hid.getD k false) q := fun q => by
        by_cases e : q = k
        · subst e
          have : netCond hid i q = false := by simpa using hh
          simp only [netCond] at this
          have h9 : decide ((q : Int) = (i : Int)) = decide (q = i) := by simp only [Int.ofNat_inj]
          rw [h9] at this
          simp only [okC, Bool.and_assoc, this]; simp
        · have : (q < k + 1) = (q < k) := by apply propext; omega
          simp only [okC, this]
      simp only [key]
end Go.Proofs.Ytmkgfgnpgoegcaa

/-
  Plain: pushes lead from a table to one that looks the same; what a cell can be.
-/
set_option linter.all false
namespace Go.Proofs.Ytmkgfgnpgoegcaa
open Go Go.W Go.RowKit

section
variable {c n i : Nat} {h : Nat → Bool} {z : Nat → Int}
/-- what stays of a table while something is pushed along a chain -/
structure Part (c n i : Nat) (h : Nat → Bool) (z u : Nat → Int) : Prop where
  pos : ∀ k, k < n → 0 ≤ u k
  same : ∀ k, k < n → okC n i h k = false → u k = z k
theorem mget_step {k : Int} {bl ms : List Int} {j a b : Nat} (hl : ms.length = 256) (hj : j < 16) (hbf : bfN bl j < 16) (hne : bfN bl j ≠ j) (hb : b < 16) :
    mget (stepM k bl ms j) a b = if a = j ∧ b = bfN bl j then mget ms a b + k else if a = bfN bl j ∧ b = j then mget ms a b - k else mget ms a b := by
  unfold stepM
  rw [mget_mset (by rw [mset_length]; exact hl) hj hbf hb]
  by_cases h1 : a = j ∧ b = bfN bl j
  · obtain ⟨rfl, rfl⟩ := h1
    rw [if_pos ⟨rfl, rfl⟩, if_pos ⟨rfl, rfl⟩, mget_mset hl hbf hj hbf, if_neg (by omega)]
  · rw [if_neg h1, if_neg h1, mget_mset hl hbf hj hb]
    by_cases h2 : a = bfN bl j ∧ b = j
    · obtain ⟨rfl, rfl⟩ := h2
      rw [if_pos ⟨rfl, rfl⟩]
    · rw [if_neg h2, if_neg h2]
theorem step_fits {ms bl : List Int} {u : Nat → Int} {kk : Int} {j : Nat} (hc : 0 < c) (hc8 : c ≤ 8) (hn : n ≤ 8 * c) (hF : Fits c n i h z ms u) (hP : Part c n i h z u) (hj : j < 16) (hbf : bfN bl j < 16) (hk0 : 0 < kk) (hk : kk ≤ mget ms (bfN bl j) j) :
    ∃ u', Fits c n i h z (stepM kk bl ms j) u' ∧ Part c n i h z u' ∧ ∀ P, Out c n P u' = Out c n P u + kk * (P (bfN bl j) - P j) := by
  rw [hF.at_ _ _ hbf hj] at hk
  obtain ⟨k, ok, hcase⟩ := resid_cell (c := c) (n := n) (i := i) (h := h) (z := z) (u := u) (a := bfN bl j) (b := j) (by omega)
  have hkn : k < n := by simp [okC] at ok; exact ok.1.1
  have h8 : k / c < 8 := by rw [Nat.div_lt_iff_lt_mul hc]; omega
  have hm := Nat.mod_lt k hc
  have hp := hP.pos k hkn
  have hother : ∀ v q, q < n → okC n i h q = false → updF u k v q = z q := fun v q hq ho => by
    rw [updF_other u v (fun e => by subst e; rw [ok] at ho; cases ho)]; exact hP.same q hq ho
  rcases hcase with ⟨e1, e2, e3⟩ | ⟨e1, e2, e3⟩
  · refine ⟨updF u k (u k + kk), ⟨by rw [stepM_length]; exact hF.len, fun a b ha hb => ?_⟩, ⟨fun q hq => ?_, hother _⟩, fun P => ?_⟩
    · rw [mget_step hF.len hj hbf (by omega) hb, resid_upd hc ok h8, hF.at_ a b ha hb, e1, e2]
      by_cases h1 : a = k / c ∧ b = 8 + k % c
      · obtain ⟨rfl, rfl⟩ := h1
        simp only [true_and, and_true, if_true, and_self]
        rw [if_neg (by omega), resid_fwd hc ok h8]; omega
      · rw [if_neg h1]
        by_cases h2 : a = 8 + k % c ∧ b = k / c
        · obtain ⟨rfl, rfl⟩ := h2
          simp only [true_and, and_true, if_true, and_self]
          try rw [if_neg (show ¬ (8 + k % c = k / c ∧ k / c = 8 + k % c) by omega)]
          rw [resid_bwd hc ok h8]
        · rw [if_neg h2, if_neg h2, if_neg h1]
    · by_cases e : q = k
      · subst e; rw [updF_same]; omega
      · rw [updF_other u _ e]; exact hP.pos q hq
    · rw [Out_upd P u _ hkn, e1, e2, show u k + kk - u k = kk by omega]
  · refine ⟨updF u k (u k - kk), ⟨by rw [stepM_length]; exact hF.len, fun a b ha hb => ?_⟩, ⟨fun q hq => ?_, hother _⟩, fun P => ?_⟩
    · rw [mget_step hF.len hj hbf (by omega) hb, resid_upd hc ok h8, hF.at_ a b ha hb, e1, e2]
      by_cases h1 : a = k / c ∧ b = 8 + k % c
      · obtain ⟨rfl, rfl⟩ := h1
        simp only [true_and, and_true, if_true, and_self]
        rw [resid_fwd hc ok h8]; omega
      · rw [if_neg h1, if_neg h1]
        by_cases h2 : a = 8 + k % c ∧ b = k / c
        · obtain ⟨rfl, rfl⟩ := h2
          simp only [true_and, and_true, if_true, and_self]
          try rw [if_neg (show ¬ (8 + k % c = k / c ∧ k / c = 8 + k % c) by omega)]
          rw [resid_bwd hc ok h8]
        · rw [if_neg h2, if_neg h2]
    · by_cases e : q = k
      · subst e; rw [updF_same]; omega
      · rw [updF_other u _ e]; exact hP.pos q hq
    · rw [Out_upd P u _ hkn, e1, e2, show u k - kk - u k = -kk by omega, Int.neg_mul, ← Int.mul_neg, Int.neg_sub]
theorem push_fits {bl : List Int} {kk : Int} {s : Nat} {rk : Nat → Nat} (hc : 0 < c) (hc8 : c ≤ 8) (hn : n ≤ 8 * c) (hk0 : 0 < kk) : ∀ (l : List Nat) (j : Nat) (ms : List Int) (u : Nat → Int), Chn bl s j l → l.Nodup → Fits c n i h z ms u → Part c n i h z u →
    (∀ x ∈ l, x < 16 ∧ bfN bl x < 16 ∧ kk ≤ mget ms (bfN bl x) x ∧ rk (bfN bl x) < rk x) →
    ∃ u', Fits c n i h z (pushM kk bl ms l) u' ∧ Part c n i h z u' ∧ ∀ P, Out c n P u' = Out c n P u + kk * (P s - P j)
  | _, _, ms, u, .nil, _, hF, hP, _ => ⟨u, hF, hP, fun P => by rw [Int.sub_self, Int.mul_zero, Int.add_zero]⟩
  | _, _, ms, u, .cons (j := j) (b := b) (l := l) hne hj hb hbl hch, hnd, hF, hP, hx => by
    obtain ⟨x1, x2, x3, x4⟩ := hx j (by simp)
    have hbf : bfN bl j = b := by unfold bfN; rw [hbl]; simp
    rw [List.nodup_cons] at hnd
    have hne2 : bfN bl j ≠ j := fun e => by rw [e] at x4; omega
    obtain ⟨u1, F1, P1, O1⟩ := step_fits (bl := bl) hc hc8 hn hF hP x1 x2 hk0 x3
    obtain ⟨u2, F2, P2, O2⟩ := push_fits hc hc8 hn hk0 l b (stepM kk bl ms j) u1 hch hnd.2 F1 P1 fun x hxl => by
      obtain ⟨y1, y2, y3, y4⟩ := hx x (by simp [hxl])
      refine ⟨y1, y2, ?_, y4⟩
      rw [mget_step hF.len x1 x2 hne2 y1]
      split
      · omega
      · rename_i hq1
        rw [if_neg (fun e : bfN bl x = bfN bl j ∧ x = j => hnd.1 (e.2 ▸ hxl))]; exact y3
    refine ⟨u2, F2, P2, fun P => ?_⟩
    rw [O2, O1, hbf, Int.add_assoc, ← Int.mul_add]
    congr 2; omega
theorem Pushes.table {s t : Nat} {most : Int} {ms0 ms : List Int} {tot : Int} {z0 : Nat → Int} (hc : 0 < c) (hc8 : c ≤ 8) (hn : n ≤ 8 * c) (ht : t < 16) (hF0 : Fits c n i h z ms0 z0) (hP0 : Part c n i h z z0) (hp : Pushes s t most ms0 ms tot) :
    ∃ u, Fits c n i h z ms u ∧ Part c n i h z u ∧ (∀ P, Out c n P u = Out c n P z0 + tot * (P s - P t)) := by
  induction hp with
  | init => exact ⟨z0, hF0, hP0, fun P => by rw [Int.zero_mul, Int.add_zero]⟩
  | @push ms tot bl l hp hlt hw h0 hch ih =>
    obtain ⟨u, F, Pt, O⟩ := ih
    obtain ⟨l', c1, c2, c3, c4, c5, rk, c6⟩ := hw.chain ht h0
    obtain rfl := hch.inj c1
    have hk := minK_le ms bl l (most - tot)
    obtain ⟨u2, F2, P2, O2⟩ := push_fits (kk := minK ms bl (most - tot) l) (rk := rk) hc hc8 hn (minK_pos (by omega) fun x hx => (c5 x hx).2.2) l t ms u hch c3 F Pt fun x hx => ⟨(c5 x hx).1, (c5 x hx).2.1, hk.2 x hx, c6 x hx⟩
    refine ⟨u2, F2, P2, fun P => ?_⟩
    rw [O2, O, Int.add_assoc, ← Int.add_mul]
end
end Go.Proofs.Ytmkgfgnpgoegcaa

/-
  Plain: the values that a cell can have fill an interval; the reference's interval is that.
-/
set_option linter.all false
namespace Go.Proofs.Ytmkgfgnpgoegcaa
open Go Go.W Go.RowKit

theorem wInner (ms : List Int) (s k : Nat) : ∀ (d i : Nat) (bl : List Int) (Q : List Nat), i + d = 16 → k < Q.length → WInv ms s bl Q k i → ∃ bl' Q', k < Q'.length ∧ WInv ms s bl' Q' k 16
  | 0, i, bl, Q, hd, hk, hW => by
    obtain rfl : i = 16 := by omega
    exact ⟨bl, Q, hk, hW⟩
  | d + 1, i, bl, Q, hd, hk, hW => by
    by_cases h1 : 0 ≤ bl.getD i 0
    · exact wInner ms s k d (i + 1) bl Q (by omega) hk (hW.skip (.inl ((hW.iff i (by omega)).1 h1)))
    · by_cases h2 : 0 < mget ms Q[k] i
      · exact wInner ms s k d (i + 1) _ (Q ++ [i]) (by omega) (by simp; omega) (hW.add hk (by omega) (by omega) h2)
      · exact wInner ms s k d (i + 1) bl Q (by omega) hk (hW.skip (.inr fun _ => by omega))
theorem wOuter (ms : List Int) (s : Nat) : ∀ (d k : Nat) (bl : List Int) (Q : List Nat), k + d = 16 → k ≤ Q.length → WInv ms s bl Q k 0 → ∃ bl', WayRet ms s bl'
  | d, k, bl, Q, hd, hk, hW => by
    by_cases h : k < Q.length
    · have := hW.room
      cases d with
      | zero => omega
      | succ d =>
        obtain ⟨bl', Q', h1, h2⟩ := wInner ms s k 16 0 bl Q rfl h hW
        exact wOuter ms s d (k + 1) bl' Q' (by omega) (by omega) h2.next
    · obtain rfl : k = Q.length := by omega
      exact ⟨bl, hW.ret⟩
theorem way_exists (ms : List Int) {s : Nat} (hs : s < 16) : ∃ bl, WayRet ms s bl := wOuter ms s 16 0 _ _ rfl (by simp) (WInv.init ms s hs)

section
variable {c n i : Nat} {h : Nat → Bool} {z u v : Nat → Int}
theorem Alike.trans (a : Alike c n z h u) (b : Alike c n u h v) : Alike c n z h v :=
  ⟨b.pos, fun k hk hh => (b.same k hk hh).trans (a.same k hk hh), fun P => (b.out P).trans (a.out P)⟩
theorem Alike.symm (a : Alike c n z h u) (hz : ∀ k, k < n → 0 ≤ z k) : Alike c n u h z := ⟨hz, fun k hk hh => (a.same k hk hh).symm, fun P => (a.out P).symm⟩
/-- what is known of a table's shape -/
structure Shape (c n : Nat) (z : Nat → Int) : Prop where
  c0 : 0 < c
  c8 : c ≤ 8
  n8 : n ≤ 8 * c
  pos : ∀ k, k < n → 0 ≤ z k
  sum : sumN z n ≤ 65536
theorem Shape.of_alike (hS : Shape c n z) (a : Alike c n z h u) : Shape c n u := ⟨hS.c0, hS.c8, hS.n8, a.pos, by rw [a.sum hS.n8 hS.c0]; exact hS.sum⟩
theorem Shape.row (hS : Shape c n z) {k : Nat} (hk : k < n) : k / c < 8 ∧ k % c < 8 := ⟨by rw [Nat.div_lt_iff_lt_mul hS.c0]; have := hS.n8; omega, by have := Nat.mod_lt k hS.c0; have := hS.c8; omega⟩
def reach (bl : List Int) (x : Nat) : Bool := decide (0 ≤ bl.getD x 0)
theorem closed_cut {ms bl : List Int} {s : Nat} (hS : Shape c n z) (hF : Fits c n i h z ms u) (a : Alike c n z h u) (hw : WayRet ms s bl) :
    (∀ k, okC n i h k = true → reach bl (8 + k % c) = true → reach bl (k / c) = false → u k = 0) ∧ (∀ k, okC n i h k = true → reach bl (k / c) = true → reach bl (8 + k % c) = true) := by
  have key : ∀ k, okC n i h k = true → k < n := fun k hk => by simp [okC] at hk; exact hk.1.1
  constructor
  · intro k ok h1 h2
    have hkn := key k ok
    obtain ⟨r1, r2⟩ := hS.row hkn
    have h3 := hw.cl (8 + k % c) (k / c) (by omega) (by omega) (by simpa [reach] using h1) (by simpa [reach] using h2)
    rw [hF.at_ _ _ (by omega) (by omega), resid_bwd hS.c0 ok r1] at h3
    have := a.pos k hkn; omega
  · intro k ok h1
    have hkn := key k ok
    obtain ⟨r1, r2⟩ := hS.row hkn
    cases h2 : reach bl (8 + k % c) with
    | true => rfl
    | false =>
      have h3 := hw.cl (k / c) (8 + k % c) (by omega) (by omega) (by simpa [reach] using h1) (by simpa [reach] using h2)
      rw [hF.at_ _ _ (by omega) (by omega), resid_fwd hS.c0 ok r1] at h3
      have := a.le hS.n8 hS.c0 hkn
      have := hS.sum
      have := hS.pos k hkn
      omega
theorem up_le {ms bl : List Int} (hS : Shape c n z) (hi : i < n) (hF : Fits c n i h z ms u) (a : Alike c n z h u) (b : AlikeW c n i z h v) (hw : WayRet ms (8 + i % c) bl) (ht : bl.getD (i / c) 0 < 0) : v i ≤ u i := by
  obtain ⟨h1, h2⟩ := closed_cut hS hF a hw
  have := cut_le (reach bl) a b hi h1 h2
  have e1 : reach bl (8 + i % c) = true := by unfold reach; rw [hw.rt]; exact decide_eq_true (Int.natCast_nonneg _)
  have e2 : reach bl (i / c) = false := by unfold reach; simp; simpa using ht
  rw [e1, e2] at this
  simp at this; omega
theorem down_le {ms bl : List Int} (hS : Shape c n z) (hi : i < n) (hF : Fits c n i h z ms u) (a : Alike c n z h u) (b : AlikeW c n i z h v) (hw : WayRet ms (i / c) bl) (ht : bl.getD (8 + i % c) 0 < 0) : u i ≤ v i := by
  obtain ⟨h1, h2⟩ := closed_cut hS hF a hw
  have := cut_le (reach bl) a b hi h1 h2
  have e1 : reach bl (i / c) = true := by unfold reach; rw [hw.rt]; exact decide_eq_true (Int.natCast_nonneg _)
  have e2 : reach bl (8 + i % c) = false := by unfold reach; simp; simpa using ht
  rw [e1, e2] at this
  simp at this; omega
theorem Part.refl (hz : ∀ k, k < n → 0 ≤ z k) : Part c n i h z z := ⟨hz, fun _ _ _ => rfl⟩
theorem Part.atI (hP : Part c n i h z u) (hi : i < n) : u i = z i := hP.same i hi (by simp [okC])
/-- cell i takes up what came through the others -/
theorem Part.upd_up {d : Int} (hP : Part c n i h z u) (hi : i < n) (hh : h i = true) (hd : 0 ≤ z i + d) (hO : ∀ P, Out c n P u = Out c n P z + d * (P (8 + i % c) - P (i / c))) : Alike c n z h (updF u i (z i + d)) where
  pos k hk := by
    by_cases e : k = i
    · subst e; rw [updF_same]; exact hd
    · rw [updF_other u _ e]; exact hP.pos k hk
  same k hk hf := by
    have e : k ≠ i := fun e => by subst e; rw [hh] at hf; cases hf
    rw [updF_other u _ e]; exact hP.same k hk (by simp [okC, hf])
  out P := by
    rw [Out_upd P u _ hi, hP.atI hi, hO P, show z i + d - z i = d by omega, Int.add_assoc, ← Int.mul_add]
    rw [show P (8 + i % c) - P (i / c) + (P (i / c) - P (8 + i % c)) = 0 by omega, Int.mul_zero, Int.add_zero]
theorem Part.upd_down {d : Int} (hP : Part c n i h z u) (hi : i < n) (hh : h i = true) (hd : 0 ≤ z i - d) (hO : ∀ P, Out c n P u = Out c n P z + d * (P (i / c) - P (8 + i % c))) : Alike c n z h (updF u i (z i - d)) := by
  have := hP.upd_up (d := -d) hi hh (by omega) fun P => by
    rw [hO P, Int.neg_mul, ← Int.mul_neg, Int.neg_sub]
  rwa [← Int.sub_eq_add_neg] at this
theorem Fits.upd_i {ms : List Int} (hF : Fits c n i h z ms u) (x : Int) : Fits c n i h z ms (updF u i x) := ⟨hF.len, fun a b ha hb => by
  rw [hF.at_ a b ha hb]
  have key : ∀ k, okC n i h k = true → updF u i x k = u k := fun k hk => updF_other u x fun e => by subst e; simp [okC] at hk
  unfold resid
  split
  · split
    · rename_i h1 h2; rw [key _ h2.2.2]
    · rfl
  · split
    · rename_i h1 h2; rw [key _ h2.2.2]
    · rfl⟩
theorem up1 (hS : Shape c n z) (hi : i < n) (hh : h i = true) (a : Alike c n z h v) (hlt : z i < v i) : ∃ w, Alike c n z h w ∧ w i = z i + 1 := by
  obtain ⟨r1, r2⟩ := hS.row hi
  obtain ⟨ms, hF⟩ := fits_exists c n i h z z
  obtain ⟨bl, hw⟩ := way_exists ms (s := 8 + i % c) (by omega)
  by_cases ht : bl.getD (i / c) 0 < 0
  · have := up_le hS hi hF (Alike.refl hS.pos) (a.weak i) hw ht; omega
  · obtain ⟨l, c1, c2, c3, c4, c5, rk, c6⟩ := hw.chain (t := i / c) (by omega) (by omega)
    obtain ⟨u, F, Pt, O⟩ := push_fits (kk := 1) (rk := rk) hS.c0 hS.c8 hS.n8 (by omega) l _ ms z c1 c3 hF (Part.refl hS.pos) fun x hx => ⟨(c5 x hx).1, (c5 x hx).2.1, by have := (c5 x hx).2.2; omega, c6 x hx⟩
    have := hS.pos i hi
    exact ⟨_, Pt.upd_up hi hh (by omega) O, updF_same ..⟩
theorem down1 (hS : Shape c n z) (hi : i < n) (hh : h i = true) (a : AlikeW c n i z h v) (hlt : v i < z i) (h0 : 0 < z i) : ∃ w, Alike c n z h w ∧ w i = z i - 1 := by
  obtain ⟨r1, r2⟩ := hS.row hi
  obtain ⟨ms, hF⟩ := fits_exists c n i h z z
  obtain ⟨bl, hw⟩ := way_exists ms (s := i / c) (by omega)
  by_cases ht : bl.getD (8 + i % c) 0 < 0
  · have := down_le hS hi hF (Alike.refl hS.pos) a hw ht; omega
  · obtain ⟨l, c1, c2, c3, c4, c5, rk, c6⟩ := hw.chain (t := 8 + i % c) (by omega) (by omega)
    obtain ⟨u, F, Pt, O⟩ := push_fits (kk := 1) (rk := rk) hS.c0 hS.c8 hS.n8 (by omega) l _ ms z c1 c3 hF (Part.refl hS.pos) fun x hx => ⟨(c5 x hx).1, (c5 x hx).2.1, by have := (c5 x hx).2.2; omega, c6 x hx⟩
    exact ⟨_, Pt.upd_down hi hh (by omega) O, updF_same ..⟩
theorem AlikeW.rebase (a : AlikeW c n i z h v) (b : Alike c n z h u) : AlikeW c n i u h v :=
  ⟨a.pos, fun k hk hh => (a.same k hk hh).trans (b.same k hk hh).symm, fun P => (a.out P).trans (b.out P).symm⟩
theorem to_zero (hi : i < n) (hh : h i = true) : ∀ (d : Nat) (z : Nat → Int), Shape c n z → AlikeW c n i z h v → v i < 0 → z i = d → ∃ w, Alike c n z h w ∧ w i = 0
  | 0, z, hS, a, _, hd => ⟨z, Alike.refl hS.pos, by simpa using hd⟩
  | d + 1, z, hS, a, hv, hd => by
    obtain ⟨w, b, e⟩ := down1 hS hi hh a (by omega) (by omega)
    obtain ⟨w2, b2, e2⟩ := to_zero hi hh d w (hS.of_alike b) (a.rebase b) hv (by omega)
    exact ⟨w2, b.trans b2, e2⟩
theorem fill_up (hi : i < n) (hh : h i = true) : ∀ (d : Nat) (z : Nat → Int), Shape c n z → Alike c n z h v → z i + d ≤ v i → ∃ w, Alike c n z h w ∧ w i = z i + d
  | 0, z, hS, a, _ => ⟨z, Alike.refl hS.pos, by simp⟩
  | d + 1, z, hS, a, hd => by
    obtain ⟨w, b, e⟩ := up1 hS hi hh a (by omega)
    obtain ⟨w2, b2, e2⟩ := fill_up hi hh d w (hS.of_alike b) ((b.symm hS.pos).trans a) (by omega)
    exact ⟨w2, b.trans b2, by omega⟩
def Exact (c n : Nat) (z : Nat → Int) (h : Nat → Bool) (i : Nat) (lo hi : Int) : Prop := ∀ x, (∃ u, Alike c n z h u ∧ u i = x) ↔ lo ≤ x ∧ x ≤ hi
theorem exact_of {lo hi : Int} {ul uh : Nat → Int} (hS : Shape c n z) (hi' : i < n) (al : Alike c n z h ul) (el : ul i = lo) (ah : Alike c n z h uh) (eh : uh i = hi) (hall : ∀ v, Alike c n z h v → lo ≤ v i ∧ v i ≤ hi) : Exact c n z h i lo hi := by
  intro x
  constructor
  · rintro ⟨u, a, rfl⟩; exact hall u a
  · rintro ⟨h1, h2⟩
    cases hh : h i with
    | false =>
      have e1 := al.same i hi' hh
      have e2 := ah.same i hi' hh
      exact ⟨ul, al, by omega⟩
    | true =>
      obtain ⟨d, hd⟩ := Int.eq_ofNat_of_zero_le (show 0 ≤ x - lo by omega)
      obtain ⟨w, b, e⟩ := fill_up (v := uh) hi' hh d ul (hS.of_alike al) ((al.symm hS.pos).trans ah) (by omega)
      exact ⟨w, al.trans b, by omega⟩
theorem Exact.le {lo hi : Int} (hS : Shape c n z) (e : Exact c n z h i lo hi) : lo ≤ z i ∧ z i ≤ hi := (e (z i)).1 ⟨z, Alike.refl hS.pos, rfl⟩
theorem Exact.inj {lo hi lo' hi' : Int} (hS : Shape c n z) (e : Exact c n z h i lo hi) (e' : Exact c n z h i lo' hi') : lo = lo' ∧ hi = hi' := by
  have h1 := e.le hS
  have h2 := e'.le hS
  have a1 := (e' lo).1 ((e lo).2 ⟨by omega, by omega⟩)
  have a2 := (e lo').1 ((e' lo').2 ⟨by omega, by omega⟩)
  have a3 := (e' hi).1 ((e hi).2 ⟨by omega, by omega⟩)
  have a4 := (e hi').1 ((e' hi').2 ⟨by omega, by omega⟩)
  omega
end
end Go.Proofs.Ytmkgfgnpgoegcaa

/-
  Plain: the reference's interval, and the program's, are exact.
-/
set_option linter.all false
namespace Go.Proofs.Ytmkgfgnpgoegcaa
open Go Go.W Go.RowKit

def zF (zs : List Int) : Nat → Int := fun k => zs.getD k 0
def hF (hid : List Bool) : Nat → Bool := fun k => hid.getD k false
theorem sumN_list : ∀ (zs : List Int), sumN (zF zs) zs.length = zs.sum := by
  intro zs
  have key : ∀ k, k ≤ zs.length → sumN (zF zs) k = (zs.take k).sum := by
    intro k
    induction k with
    | zero => intro _; simp [sumN]
    | succ k ih =>
      intro hk
      rw [sumN, ih (by omega), sum_take_succ zs k (by omega)]
      simp [zF, show k < zs.length by omega]
  have := key zs.length (Nat.le_refl _)
  rwa [List.take_length] at this
theorem TblOk.shape {r : Int} {cn : Nat} {zs : List Int} (h : TblOk r cn zs) : Shape cn zs.length (zF zs) := by
  obtain ⟨r1, r2, c1, c2⟩ := h.rng
  have hl := h.len
  obtain ⟨rn, rfl⟩ := Int.eq_ofNat_of_zero_le (show 0 ≤ r by omega)
  have hl2 : zs.length = rn * cn := by exact_mod_cast hl
  refine ⟨by omega, by omega, by rw [hl2]; exact Nat.mul_le_mul_right _ (by omega), fun k hk => ?_, by rw [sumN_list]; exact h.sum⟩
  have := (h.cells k hk).1
  simpa [zF, hk] using this
theorem refSpan_exact {r : Int} {c i : Nat} {zs : List Int} {hid : List Bool} {lo hi : Int} (hT : TblOk r c zs) (hi' : i < zs.length) (h : RefSpan c zs hid i lo hi) : Exact c zs.length (zF zs) (hF hid) i lo hi := by
  have hS := hT.shape
  obtain ⟨r1, r2⟩ := hS.row hi'
  have hz := hS.pos i hi'
  unfold RefSpan at h
  split at h
  · rename_i hf
    obtain ⟨rfl, rfl⟩ := h
    refine exact_of hS hi' (Alike.refl hS.pos) rfl (Alike.refl hS.pos) rfl fun v a => ?_
    rw [a.same i hi' hf]; exact ⟨Int.le_refl _, Int.le_refl _⟩
  · rename_i hf
    have hh : hF hid i = true := by simpa [hF] using hf
    obtain ⟨a, b, ⟨ms, hp, hend⟩, ⟨ms2, hp2, hend2⟩, a0, a1, b0, b1, rfl, rfl⟩ := h
    have hfit := fits_net (i := i) (n := zs.length) (zs := zs) (hid := hid) hS.c0 hS.c8 hS.n8 zs.length (Nat.le_refl _)
    have hfit : Fits c zs.length i (hF hid) (zF zs) (netM c zs hid i zs.length) (zF zs) := hfit
    obtain ⟨u, F, Pt, O⟩ := hp.table hS.c0 hS.c8 hS.n8 (by omega) hfit (Part.refl hS.pos)
    obtain ⟨u2, F2, P2, O2⟩ := hp2.table hS.c0 hS.c8 hS.n8 (by omega) hfit (Part.refl hS.pos)
    have A := Pt.upd_down hi' hh (d := a) (by show 0 ≤ zs.getD i 0 - a; omega) O
    have A2 := P2.upd_up hi' hh (d := b) (by omega) O2
    refine exact_of hS hi' A (updF_same ..) A2 (updF_same ..) fun v av => ⟨?_, ?_⟩
    · rcases hend with hd | ⟨bl, hw, ht⟩
      · have := av.pos i hi'
        omega
      · have := down_le hS hi' (F.upd_i _) A (av.weak i) hw ht
        rw [updF_same] at this; exact this
    · rcases hend2 with hd | ⟨bl, hw, ht⟩
      · have := av.le hS.n8 hS.c0 hi'
        have := hS.sum
        have : 0 ≤ zs.getD i 0 := hz
        omega
      · have := up_le hS hi' (F2.upd_i _) A2 (av.weak i) hw ht
        rw [updF_same] at this; exact this

/-! ### the program's -/
theorem netOut_append (p : Int → Int) : ∀ (l1 : List Arc) (on1 : List Int) (l2 : List Arc) (on2 : List Int), on1.length = l1.length → netOut p (l1 ++ l2) (on1 ++ on2) = netOut p l1 on1 + netOut p l2 on2
  | [], [], l2, on2, _ => by simp [netOut]
  | a :: l1, x :: on1, l2, on2, h => by
    simp only [List.cons_append, netOut, netOut_append p l1 on1 l2 on2 (by simpa using h)]; omega
  | [], _ :: _, _, _, h => by simp at h
  | _ :: _, [], _, _, h => by simp at h
theorem netOut_shift (p : Int → Int) (k : Int) : ∀ (l : List Arc) (on : List Int), netOut (fun x => p x - k) l on = netOut p l on
  | [], _ => by simp [netOut]
  | _ :: _, [] => by simp [netOut]
  | a :: l, x :: on => by
    simp only [netOut, netOut_shift p k l on]
    rw [show p a.f - k - (p a.t - k) = p a.f - p a.t by omega]
theorem IsFlow.pot {n : Nat} {l : List Arc} {s t : Int} {on : List Int} {amt : Int} (hf : IsFlow n l s t on amt) (hn : NodesOk n l) (hs : 0 ≤ s ∧ s < n) (p : Int → Int) : netOut p l on = amt * (p s - p t) := by
  rw [← netOut_shift p (p t), netOut_sum n _ l on hn, sumTo_single _ s n hs.1 hs.2, hf.amt, Int.mul_comm]
  intro u hu0 hu1 hus
  by_cases hut : u = t
  · subst hut; simp
  · rw [hf.cons u hu0 hu1 hus hut]; simp
/-- a potential of the program's nodes, over the reference's numbers -/
def potP (r : Int) (p : Int → Int) : Nat → Int := fun x => if x < 8 then p x else p (r + ((x - 8 : Nat) : Int))
def arcsTerm (c : Nat) (P : Nat → Int) (d : Nat → Int) (k : Nat) : Int := d k * (P (k / c) - P (8 + k % c))
theorem VFlow.split {l1 l2 : List Arc} {on : List Int} (h : VFlow (l1 ++ l2) on) : ∃ on1 on2, on = on1 ++ on2 ∧ VFlow l1 on1 ∧ VFlow l2 on2 := by
  have hl := h.len
  rw [List.length_append] at hl
  refine ⟨on.take l1.length, on.drop l1.length, (List.take_append_drop _ _).symm, ⟨by simp; omega, fun i hi hi2 => ?_⟩, ⟨by simp; omega, fun i hi hi2 => ?_⟩⟩
  · have := h.bd i (by simp; omega) (by omega)
    rw [List.getElem_append_left hi] at this
    simpa using this
  · have := h.bd (l1.length + i) (by simp; omega) (by omega)
    rw [List.getElem_append_right (by omega)] at this
    simpa using this
theorem VFlow.append {l1 l2 : List Arc} {on1 on2 : List Int} (h1 : VFlow l1 on1) (h2 : VFlow l2 on2) : VFlow (l1 ++ l2) (on1 ++ on2) := by
  refine ⟨by simp [h1.len, h2.len], fun i hi hi2 => ?_⟩
  have e1 := h1.len
  by_cases h : i < l1.length
  · rw [List.getElem_append_left h, List.getElem_append_left (by omega)]
    exact h1.bd i h (by omega)
  · rw [List.getElem_append_right (by omega), List.getElem_append_right (by omega)]
    simp only [List.length_append] at hi hi2
    have := h2.bd (i - l1.length) (by omega) (by omega)
    simpa [e1] using this
end Go.Proofs.Ytmkgfgnpgoegcaa

/-
  Plain: the program's interval is exact.
-/
set_option linter.all false
namespace Go.Proofs.Ytmkgfgnpgoegcaa
open Go Go.W Go.RowKit

theorem okC_net {n i : Nat} {hid : List Bool} {k : Nat} (hk : k < n) : okC n i (hF hid) k = netCond hid i k := by
  unfold okC netCond hF
  rw [decide_eq_true hk, Bool.true_and]
  have : decide ((k : Int) = (i : Int)) = decide (k = i) := by simp only [Int.ofNat_inj]
  rw [this]
theorem potP_row {r : Int} {p : Int → Int} {x : Nat} (hx : x < 8) : potP r p x = p x := if_pos hx
theorem potP_col {r : Int} {p : Int → Int} (x : Nat) : potP r p (8 + x) = p (r + (x : Int)) := by
  unfold potP; rw [if_neg (by omega)]; congr 2; omega
theorem cell_netOut {r : Int} {c k : Nat} (h8 : k / c < 8) (p : Int → Int) (z x y : Int) : netOut p (cellArcs r c k z) [x, y] = (y - x) * (potP r p (k / c) - potP r p (8 + k % c)) := by
  rw [potP_row h8, potP_col]
  simp only [cellArcs, netOut, Int.natCast_ediv, Int.natCast_emod, Int.sub_mul, Int.mul_sub]
  omega
theorem arcs_table {r : Int} {c i n : Nat} {zs : List Int} {hid : List Bool} (hS : Shape c n (zF zs)) : ∀ k, k ≤ n → ∀ on, VFlow (netArcs r c zs hid i k) on →
    ∃ d : Nat → Int, (∀ q, q < k → okC n i (hF hid) q = false → d q = 0) ∧ (∀ q, q < k → okC n i (hF hid) q = true → -zF zs q ≤ d q) ∧ ∀ p, netOut p (netArcs r c zs hid i k) on = sumN (arcsTerm c (potP r p) d) k
  | 0, _, on, _ => ⟨fun _ => 0, fun q hq => absurd hq (by omega), fun q hq => absurd hq (by omega), fun p => by simp [netArcs, netOut, sumN]⟩
  | k + 1, hk, on, hV => by
    obtain ⟨r1, r2⟩ := hS.row (show k < n by omega)
    rw [netArcs] at hV
    obtain ⟨on1, on2, rfl, V1, V2⟩ := hV.split
    obtain ⟨d, d1, d2, d3⟩ := arcs_table hS k (by omega) on1 V1
    have hrest : ∀ (x : Int) p, sumN (arcsTerm c (potP r p) (updF d k x)) k = sumN (arcsTerm c (potP r p) d) k := fun x p => sumN_congr fun q hq => by
      unfold arcsTerm; rw [updF_other d x (by omega)]
    by_cases hc : netCond hid i k = true
    · rw [if_pos hc] at V2
      have hl2 := V2.len
      obtain ⟨x, y, rfl⟩ : ∃ x y, on2 = [x, y] := by
        match on2, hl2 with
        | [x, y], _ => exact ⟨x, y, rfl⟩
      have b0 := V2.bd 0 (by simp [cellArcs]) (by simp)
      have b1 := V2.bd 1 (by simp [cellArcs]) (by simp)
      simp only [cellArcs, List.getElem_cons_zero, List.getElem_cons_succ] at b0 b1
      refine ⟨updF d k (y - x), fun q hq ho => ?_, fun q hq ho => ?_, fun p => ?_⟩
      · by_cases e : q = k
        · subst e; rw [okC_net (by omega), hc] at ho; cases ho
        · rw [updF_other d _ e]; exact d1 q (by omega) ho
      · by_cases e : q = k
        · subst e; rw [updF_same]; unfold zF; omega
        · rw [updF_other d _ e]; exact d2 q (by omega) ho
      · rw [netArcs, if_pos hc, netOut_append _ _ _ _ _ V1.len, d3, sumN, hrest, cell_netOut r1]
        unfold arcsTerm; rw [updF_same]
    · rw [if_neg hc] at V2
      have : on2 = [] := by have := V2.len; simpa using this
      subst this
      refine ⟨updF d k 0, fun q hq ho => ?_, fun q hq ho => ?_, fun p => ?_⟩
      · by_cases e : q = k
        · subst e; rw [updF_same]
        · rw [updF_other d _ e]; exact d1 q (by omega) ho
      · by_cases e : q = k
        · subst e; rw [okC_net (by omega)] at ho; exact absurd ho hc
        · rw [updF_other d _ e]; exact d2 q (by omega) ho
      · rw [netArcs, if_neg hc, netOut_append _ _ _ _ _ V1.len, d3, sumN, hrest]
        unfold arcsTerm; rw [updF_same]; simp [netOut]
theorem table_arcs {r : Int} {c i n : Nat} {zs : List Int} {hid : List Bool} {v : Nat → Int} (hS : Shape c n (zF zs)) (a : Alike c n (zF zs) (hF hid) v) : ∀ k, k ≤ n →
    ∃ on, VFlow (netArcs r c zs hid i k) on ∧ ∀ p, netOut p (netArcs r c zs hid i k) on = sumN (arcsTerm c (potP r p) (fun q => if okC n i (hF hid) q = true then v q - zF zs q else 0)) k
  | 0, _ => ⟨[], ⟨rfl, fun i hi => by simp [netArcs] at hi⟩, fun p => by simp [netArcs, netOut, sumN]⟩
  | k + 1, hk => by
    obtain ⟨r1, r2⟩ := hS.row (show k < n by omega)
    obtain ⟨on, V, e⟩ := table_arcs (r := r) (i := i) hS a k (by omega)
    by_cases hc : netCond hid i k = true
    · have hv := a.pos k (by omega)
      have hv2 := a.le hS.n8 hS.c0 (show k < n by omega)
      have hz := hS.pos k (by omega)
      have hs := hS.sum
      have ez : zs.getD k 0 = zF zs k := rfl
      by_cases hlt : zF zs k ≤ v k
      · refine ⟨on ++ [0, v k - zF zs k], ?_, fun p => ?_⟩
        · rw [netArcs, if_pos hc]
          refine V.append ⟨rfl, fun j hj hj2 => ?_⟩
          match j, hj2 with
          | 0, _ => simp only [cellArcs, List.getElem_cons_zero]; omega
          | 1, _ => simp only [cellArcs, List.getElem_cons_zero, List.getElem_cons_succ]; omega
        · rw [netArcs, if_pos hc, netOut_append _ _ _ _ _ V.len, e, sumN, cell_netOut r1]
          unfold arcsTerm; dsimp only
          rw [if_pos (by rw [okC_net (by omega)]; exact hc)]; simp
      · refine ⟨on ++ [zF zs k - v k, 0], ?_, fun p => ?_⟩
        · rw [netArcs, if_pos hc]
          refine V.append ⟨rfl, fun j hj hj2 => ?_⟩
          match j, hj2 with
          | 0, _ => simp only [cellArcs, List.getElem_cons_zero]; omega
          | 1, _ => simp only [cellArcs, List.getElem_cons_zero, List.getElem_cons_succ]; omega
        · rw [netArcs, if_pos hc, netOut_append _ _ _ _ _ V.len, e, sumN, cell_netOut r1]
          unfold arcsTerm; dsimp only
          rw [if_pos (by rw [okC_net (by omega)]; exact hc), show 0 - (zF zs k - v k) = v k - zF zs k by omega]
    · refine ⟨on, ?_, fun p => ?_⟩
      · rw [netArcs, if_neg hc, List.append_nil]; exact V
      · rw [netArcs, if_neg hc, List.append_nil, e, sumN]
        unfold arcsTerm; dsimp only
        rw [if_neg (by rw [okC_net (by omega)]; exact hc)]; simp
/-- a potential of the program's nodes out of one of the reference's -/
def pOf (r : Int) (P : Nat → Int) : Int → Int := fun y => if y < r then P y.toNat else P (8 + (y - r).toNat)
theorem potP_pOf_row {r : Int} {P : Nat → Int} {x : Nat} (hx : (x : Int) < r) (h8 : x < 8) : potP r (pOf r P) x = P x := by
  rw [potP_row h8]; unfold pOf; rw [if_pos hx]; rfl
theorem potP_pOf_col {r : Int} {P : Nat → Int} (x : Nat) : potP r (pOf r P) (8 + x) = P (8 + x) := by
  rw [potP_col]; unfold pOf; rw [if_neg (by omega)]; congr 2; omega
theorem TblOk.rowlt {r : Int} {c : Nat} {zs : List Int} (h : TblOk r c zs) {k : Nat} (hk : k < zs.length) : ((k / c : Nat) : Int) < r := by
  obtain ⟨r1, r2, c1, c2⟩ := h.rng
  obtain ⟨rn, rfl⟩ := Int.eq_ofNat_of_zero_le (show 0 ≤ r by omega)
  have hl2 : zs.length = rn * c := by exact_mod_cast h.len
  have : k / c < rn := by rw [Nat.div_lt_iff_lt_mul (by omega)]; omega
  omega
theorem flow_table {r : Int} {c i : Nat} {zs : List Int} {hid : List Bool} (hT : TblOk r c zs) (hi : i < zs.length) {m : Nat} {s t amt : Int} (hn : NodesOk m (netArcs r c zs hid i zs.length)) (hs : 0 ≤ s ∧ s < m) (hf : ∃ on, IsFlow m (netArcs r c zs hid i zs.length) s t on amt) :
    ∃ u, Part c zs.length i (hF hid) (zF zs) u ∧ ∀ P, Out c zs.length P u = Out c zs.length P (zF zs) + amt * (pOf r P s - pOf r P t) := by
  have hS := hT.shape
  obtain ⟨on, hf⟩ := hf
  obtain ⟨d, d1, d2, d3⟩ := arcs_table hS zs.length (Nat.le_refl _) on hf.v
  refine ⟨fun q => zF zs q + d q, ⟨fun k hk => ?_, fun k hk ho => ?_⟩, fun P => ?_⟩
  · cases ho : okC zs.length i (hF hid) k with
    | true => have := d2 k hk ho; show 0 ≤ zF zs k + d k; omega
    | false => have := d1 k hk ho; have := hS.pos k hk; show 0 ≤ zF zs k + d k; omega
  · show zF zs k + d k = zF zs k; rw [d1 k hk ho]; omega
  · rw [← hf.pot hn hs, d3]
    unfold Out
    rw [← sumN_add]
    refine sumN_congr fun k hk => ?_
    obtain ⟨r1, r2⟩ := hS.row hk
    unfold arcsTerm
    rw [potP_pOf_row (hT.rowlt hk) r1, potP_pOf_col, Int.add_mul]
theorem table_flow {r : Int} {c i : Nat} {zs : List Int} {hid : List Bool} {v : Nat → Int} (hT : TblOk r c zs) (hi : i < zs.length) (a : Alike c zs.length (zF zs) (hF hid) v) :
    ∃ on, VFlow (netArcs r c zs hid i zs.length) on ∧ ∀ p : Int → Int, netOut p (netArcs r c zs hid i zs.length) on = (v i - zF zs i) * (p (r + ((i % c : Nat) : Int)) - p ((i / c : Nat) : Int)) := by
  have hS := hT.shape
  obtain ⟨on, V, e⟩ := table_arcs (r := r) (i := i) hS a zs.length (Nat.le_refl _)
  refine ⟨on, V, fun p => ?_⟩
  rw [e]
  have h1 := a.out (potP r p)
  unfold Out at h1
  have h2 : sumN (fun k => v k * (potP r p (k / c) - potP r p (8 + k % c)) - zF zs k * (potP r p (k / c) - potP r p (8 + k % c))) zs.length = 0 := by rw [sumN_sub]; omega
  rw [sumN_pick hi] at h2
  have h3 : sumN (fun k => if k = i then 0 else v k * (potP r p (k / c) - potP r p (8 + k % c)) - zF zs k * (potP r p (k / c) - potP r p (8 + k % c))) zs.length = sumN (arcsTerm c (potP r p) (fun q => if okC zs.length i (hF hid) q = true then v q - zF zs q else 0)) zs.length := by
    refine sumN_congr fun k hk => ?_
    unfold arcsTerm; dsimp only
    by_cases hki : k = i
    · subst hki; rw [if_pos rfl, if_neg (by simp [okC])]; simp
    · rw [if_neg hki]
      cases hh : hF hid k with
      | true => rw [if_pos (by simp [okC, hk, hh, hki]), Int.sub_mul]
      | false => rw [if_neg (by simp [okC, hh]), a.same k hk hh]; simp
  rw [← h3]
  obtain ⟨r1, r2⟩ := hS.row hi
  rw [potP_row r1, potP_col] at h2
  rw [Int.sub_mul, Int.mul_sub, Int.mul_sub]
  rw [Int.mul_sub, Int.mul_sub] at h2
  omega
theorem nodesOk {r c : Int} {zs : List Int} {hid : List Bool} {but : Int} {m : Nat} (hr : TblRange r c) (hl : (zs.length : Int) = r * c) (hZ : ZsOk zs) (hm : r + c = m) : NodesOk m (netArcs r c zs hid but zs.length) := fun a ha => by
  have := (netArcs_ok (hid := hid) (but := but) hr hl hZ zs.length (Nat.le_refl _) a ha).1
  simp [arcBad, isNode] at this; omega
theorem span_exact {r : Int} {c i : Nat} {zs : List Int} {hid : List Bool} {lo hi : Int} (hT : TblOk r c zs) (hi' : i < zs.length) (h : SpanOf r c zs hid i lo hi) : Exact c zs.length (zF zs) (hF hid) i lo hi := by
  have hS := hT.shape
  obtain ⟨r1, r2⟩ := hS.row hi'
  have hz := hS.pos i hi'
  have hm2 := Nat.mod_lt i hS.c0
  have hrl := hT.rowlt hi'
  replace h := h.2
  split at h
  · rename_i hf
    obtain ⟨rfl, rfl⟩ := h
    refine exact_of hS hi' (Alike.refl hS.pos) rfl (Alike.refl hS.pos) rfl fun v a => ?_
    rw [a.same i hi' hf]; exact ⟨Int.le_refl _, Int.le_refl _⟩
  · rename_i hf
    have hh : hF hid i = true := by simpa [hF] using hf
    obtain ⟨m, gain, loss, hm, hg, hs, g0, l0, rfl, rfl⟩ := h
    have hn : NodesOk m (netArcs r c zs hid i zs.length) := nodesOk hT.rng hT.len hT.cells hm
    have ez : zs.getD i 0 = zF zs i := rfl
    rw [ez]
    have e1 : ((i : Int) / (c : Int)) = ((i / c : Nat) : Int) := by simp
    have e2 : ((i : Int) % (c : Int)) = ((i % c : Nat) : Int) := by simp
    rw [e1, e2] at hg hs
    have hcol : 0 ≤ r + ((i % c : Nat) : Int) ∧ r + ((i % c : Nat) : Int) < m := by
      have := hT.rng.1
      have := Int.natCast_nonneg (i % c)
      have : ((i % c : Nat) : Int) < c := Int.ofNat_lt.2 hm2
      omega
    have hrow : 0 ≤ ((i / c : Nat) : Int) ∧ ((i / c : Nat) : Int) < m := ⟨Int.natCast_nonneg _, by omega⟩
    have hne : r + ((i % c : Nat) : Int) ≠ ((i / c : Nat) : Int) := by have := Int.natCast_nonneg (i % c); omega
    obtain ⟨⟨ong, hfg⟩, Sg, s1, s2, s3⟩ := hg
    obtain ⟨⟨onl, hfl⟩, Sl, t1, t2, t3⟩ := hs
    obtain ⟨u, Pu, Ou⟩ := flow_table hT hi' hn hcol ⟨ong, hfg⟩
    obtain ⟨u2, Pu2, Ou2⟩ := flow_table hT hi' hn hrow ⟨onl, hfl⟩
    have pr : ∀ P, pOf r P ((i / c : Nat) : Int) = P (i / c) := fun P => by unfold pOf; rw [if_pos hrl]; rfl
    have pc : ∀ P, pOf r P (r + ((i % c : Nat) : Int)) = P (8 + i % c) := fun P => by unfold pOf; rw [if_neg (by omega)]; congr 2; omega
    have A := Pu.upd_up hi' hh (d := gain) (by omega) (fun P => by rw [Ou, pr, pc])
    have hflow : ∀ v, Alike c zs.length (zF zs) (hF hid) v → v i - zF zs i ≤ gain ∧ zF zs i - v i ≤ loss := fun v av => by
      obtain ⟨on, V, e⟩ := table_flow (i := i) hT hi' av
      constructor
      · rw [← s3]
        refine weak_dual (t := ((i / c : Nat) : Int)) (on := on) ⟨V, fun w w0 w1 w2 w3 => ?_, ?_⟩ hn hcol s1 s2
        · rw [e, show ind w (r + ((i % c : Nat) : Int)) = 0 from if_neg fun x => w2 x.symm, show ind w ((i / c : Nat) : Int) = 0 from if_neg fun x => w3 x.symm]; simp
        · rw [e, show ind (r + ((i % c : Nat) : Int)) (r + ((i % c : Nat) : Int)) = 1 from if_pos rfl, show ind (r + ((i % c : Nat) : Int)) ((i / c : Nat) : Int) = 0 from if_neg fun x => hne x.symm]; simp
      · rw [← t3]
        refine weak_dual (t := r + ((i % c : Nat) : Int)) (on := on) ⟨V, fun w w0 w1 w2 w3 => ?_, ?_⟩ hn hrow t1 t2
        · rw [e, show ind w (r + ((i % c : Nat) : Int)) = 0 from if_neg fun x => w3 x.symm, show ind w ((i / c : Nat) : Int) = 0 from if_neg fun x => w2 x.symm]; simp
        · rw [e, show ind ((i / c : Nat) : Int) (r + ((i % c : Nat) : Int)) = 0 from if_neg hne, show ind ((i / c : Nat) : Int) ((i / c : Nat) : Int) = 1 from if_pos rfl]; omega
    have hall : ∀ v, Alike c zs.length (zF zs) (hF hid) v → zF zs i - min (zF zs i) loss ≤ v i ∧ v i ≤ zF zs i + gain := fun v av => by
      have := hflow v av
      have := av.pos i hi'
      omega
    by_cases hle : loss ≤ zF zs i
    · have B := Pu2.upd_down hi' hh (d := loss) (by omega) (fun P => by rw [Ou2, pr, pc])
      exact exact_of hS hi' B (by rw [updF_same]; omega) A (updF_same ..) hall
    · have W : AlikeW c zs.length i (zF zs) (hF hid) (updF u2 i (zF zs i - loss)) := by
        refine ⟨fun k hk hki => by rw [updF_other u2 _ hki]; exact Pu2.pos k hk, fun k hk hf2 => ?_, fun P => ?_⟩
        · have e : k ≠ i := fun e => by subst e; rw [hh] at hf2; cases hf2
          rw [updF_other u2 _ e]; exact Pu2.same k hk (by simp [okC, hf2])
        · rw [Out_upd P u2 _ hi', Pu2.atI hi', Ou2 P, pr, pc, show zF zs i - loss - zF zs i = -loss by omega, Int.neg_mul, ← Int.mul_neg, Int.neg_sub, Int.add_assoc, ← Int.mul_add]
          rw [show P (i / c) - P (8 + i % c) + (P (8 + i % c) - P (i / c)) = 0 by omega, Int.mul_zero, Int.add_zero]
      obtain ⟨d, hd⟩ := Int.eq_ofNat_of_zero_le hz
      obtain ⟨w, aw, ew⟩ := to_zero hi' hh d (zF zs) hS W (by rw [updF_same]; omega) hd
      exact exact_of hS hi' aw (by omega) A (updF_same ..) hall
end Go.Proofs.Ytmkgfgnpgoegcaa

/-
  Plain: what the program and the reference return is one and the same.
-/
set_option linter.all false
namespace Go.Proofs.Ytmkgfgnpgoegcaa
open Go Go.W Go.RowKit

def XSp (c : Int) (zs : List Int) (hid : List Bool) (k : Nat) (lo hi : Int) : Prop := ∃ cn : Nat, c = cn ∧ Exact cn zs.length (zF zs) (hF hid) k lo hi
theorem XSp.inj {r c : Int} {zs : List Int} {hid : List Bool} {k : Nat} {lo hi lo' hi' : Int} (hT : TblOk r c zs) (h : XSp c zs hid k lo hi) (h' : XSp c zs hid k lo' hi') : lo = lo' ∧ hi = hi' := by
  obtain ⟨cn, rfl, e⟩ := h
  obtain ⟨cn', hc, e'⟩ := h'
  obtain rfl : cn = cn' := Int.ofNat_inj.1 hc
  exact e.inj hT.shape e'
theorem SpanOf.x {r c : Int} {zs : List Int} {hid : List Bool} {k : Nat} {lo hi : Int} (hT : TblOk r c zs) (hk : k < zs.length) (h : SpanOf r c zs hid k lo hi) : XSp c zs hid k lo hi := by
  obtain ⟨r1, r2, c1, c2⟩ := hT.rng
  obtain ⟨cn, rfl⟩ := Int.eq_ofNat_of_zero_le (show 0 ≤ c by omega)
  exact ⟨cn, rfl, span_exact hT hk h⟩
theorem RSp.x {r c : Int} {zs : List Int} {hid : List Bool} {k : Nat} {lo hi : Int} (hT : TblOk r c zs) (hk : k < zs.length) (h : RSp c zs hid k lo hi) : XSp c zs hid k lo hi := by
  obtain ⟨cn, rfl, h⟩ := h
  exact ⟨cn, rfl, refSpan_exact hT hk h⟩
theorem UnsafeG.inj {Sp : Nat → Int → Int → Prop} {hid : List Bool} {width x y : Int} (hS : ∀ k lo hi lo' hi', Sp k lo hi → Sp k lo' hi' → lo = lo' ∧ hi = hi') (h : UnsafeG Sp hid width x) (h' : UnsafeG Sp hid width y) : x = y := by
  have key : ∀ k, NarrowG Sp hid width k → WideG Sp hid width k → False := fun k h1 h2 => by
    obtain ⟨a, lo, hi, b, c⟩ := h1
    rcases h2 with h2 | ⟨lo', hi', b', c'⟩
    · rw [a] at h2; cases h2
    · obtain ⟨rfl, rfl⟩ := hS _ _ _ _ _ b b'; exact c' c
  rcases h with ⟨rfl, h⟩ | ⟨k, rfl, hk, h1, h2⟩
  · rcases h' with ⟨rfl, _⟩ | ⟨k, rfl, hk, h1, _⟩
    · rfl
    · exact (key k h1 (h k hk)).elim
  · rcases h' with ⟨rfl, h⟩ | ⟨k', rfl, hk', h1', h2'⟩
    · exact (key k h1 (h k hk)).elim
    · rcases Nat.lt_trichotomy k k' with h3 | h3 | h3
      · exact (key k h1 (h2' k h3)).elim
      · rw [h3]
      · exact (key k' h1' (h2 k' h3)).elim
theorem UnsafeG.mono {Sp Sp' : Nat → Int → Int → Prop} {hid : List Bool} {width x : Int} (hS : ∀ k lo hi, k < hid.length → Sp k lo hi → Sp' k lo hi) (h : UnsafeG Sp hid width x) : UnsafeG Sp' hid width x := by
  have kn : ∀ k, k < hid.length → NarrowG Sp hid width k → NarrowG Sp' hid width k := fun k hk h => ⟨h.1, by obtain ⟨lo, hi, a, b⟩ := h.2; exact ⟨lo, hi, hS _ _ _ hk a, b⟩⟩
  have kw : ∀ k, k < hid.length → WideG Sp hid width k → WideG Sp' hid width k := fun k hk h => h.imp id fun ⟨lo, hi, a, b⟩ => ⟨lo, hi, hS _ _ _ hk a, b⟩
  rcases h with ⟨rfl, h⟩ | ⟨k, rfl, hk, h1, h2⟩
  · exact .inl ⟨rfl, fun k hk => kw k hk (h k hk)⟩
  · exact .inr ⟨k, rfl, hk, kn k hk h1, fun j hj => kw j (by omega) (h2 j hj)⟩
theorem UnsafeRet.g {r c : Int} {zs : List Int} {hid : List Bool} {width x : Int} (h : UnsafeRet r c zs hid width x) : UnsafeG (SpanOf r c zs hid) hid width x := by
  have kw : ∀ k, Wide r c zs hid width k → WideG (SpanOf r c zs hid) hid width k := fun k h => by
    obtain ⟨lo, hi, a, b⟩ := h
    cases hh : hid.getD k false with
    | false => exact .inl hh
    | true => exact .inr ⟨lo, hi, a, fun h => b ⟨hh, h⟩⟩
  rcases h with ⟨rfl, h⟩ | ⟨k, rfl, hk, ⟨lo, hi, a, b, d⟩, h2⟩
  · exact .inl ⟨rfl, fun k hk => kw k (h k hk)⟩
  · exact .inr ⟨k, rfl, hk, ⟨b, lo, hi, a, d⟩, fun j hj => kw j (h2 j hj)⟩
abbrev UX (c : Int) (zs : List Int) (width : Int) (hid : List Bool) (x : Int) : Prop := UnsafeG (XSp c zs hid) hid width x
theorem UnsafeRet.x {r c : Int} {zs : List Int} {hid : List Bool} {width x : Int} (hT : TblOk r c zs) (hh : hid.length = zs.length) (h : UnsafeRet r c zs hid width x) : UX c zs width hid x :=
  h.g.mono fun k lo hi hk a => a.x hT (by omega)
theorem UnsafeG.x {r c : Int} {zs : List Int} {hid : List Bool} {width x : Int} (hT : TblOk r c zs) (hh : hid.length = zs.length) (h : UnsafeG (RSp c zs hid) hid width x) : UX c zs width hid x :=
  h.mono fun k lo hi hk a => a.x hT (by omega)
theorem UX.inj {r c : Int} {zs : List Int} {hid : List Bool} {width x y : Int} (hT : TblOk r c zs) (h : UX c zs width hid x) (h' : UX c zs width hid y) : x = y :=
  UnsafeG.inj (fun _ _ _ _ _ a b => a.inj hT b) h h'
theorem NextRet.inj {c : Int} {i : Nat} {hid : List Bool} {x y : Int} (h : NextRet c i hid x) (h' : NextRet c i hid y) : x = y := by
  rcases h with ⟨rfl, h⟩ | ⟨j, k, rfl, hj, hk, hf, h1, h2⟩
  · rcases h' with ⟨rfl, _⟩ | ⟨j, k, rfl, hj, hk, hf, _⟩
    · rfl
    · exact absurd hf (h j hj k hk)
  · rcases h' with ⟨rfl, h⟩ | ⟨j', k', rfl, hj', hk', hf', h1', h2'⟩
    · exact absurd hf (h j hj k hk)
    · rcases Nat.lt_trichotomy j j' with h3 | h3 | h3
      · exact absurd hf (h2' j h3 k hk)
      · subst h3
        rcases Nat.lt_trichotomy k k' with h4 | h4 | h4
        · exact absurd hf (h1' k h4)
        · rw [h4]
        · exact absurd hf' (h1 k' h4)
      · exact absurd hf' (h2 j' h3 k' hk')
theorem HideRun.x {r c : Int} {zs : List Int} {width : Int} {hid out : List Bool} {er : Int} (hT : TblOk r c zs) (h : HideRun r c zs width hid out er) : hid.length = zs.length → HideG (UX c zs width) c hid out er := by
  induction h with
  | done hU => intro hl; exact .done (hU.x hT hl)
  | empty i hi hU hN => intro hl; exact .empty i hi (hU.x hT hl) hN
  | step i k hi hU hN _ ih => intro hl; exact .step i k hi (hU.x hT hl) hN (ih (by simpa using hl))
theorem HideG.x {r c : Int} {zs : List Int} {width : Int} {hid out : List Bool} {er : Int} (hT : TblOk r c zs) (h : HideG (fun h x => UnsafeG (RSp c zs h) h width x) c hid out er) : hid.length = zs.length → HideG (UX c zs width) c hid out er := by
  induction h with
  | done hU => intro hl; exact .done (hU.x hT hl)
  | empty i hi hU hN => intro hl; exact .empty i hi (hU.x hT hl) hN
  | step i k hi hU hN _ ih => intro hl; exact .step i k hi (hU.x hT hl) hN (ih (by simpa using hl))
theorem HideG.inj {r c : Int} {zs : List Int} {width : Int} {hid out : List Bool} {er : Int} (hT : TblOk r c zs) (h : HideG (UX c zs width) c hid out er) : ∀ {out' er'}, HideG (UX c zs width) c hid out' er' → out = out' ∧ er = er' := by
  induction h with
  | done hU =>
    intro out' er' h'
    cases h' with
    | done => exact ⟨rfl, rfl⟩
    | empty i hi hU' => have := hU.inj hT hU'; omega
    | step i k hi hU' => have := hU.inj hT hU'; omega
  | empty i hi hU hN =>
    intro out' er' h'
    cases h' with
    | done hU' => have := hU.inj hT hU'; omega
    | empty => exact ⟨rfl, rfl⟩
    | step i' k hi' hU' hN' =>
      obtain rfl : i = i' := Int.ofNat_inj.1 (hU.inj hT hU')
      have := hN.inj hN'; omega
  | step i k hi hU hN hR ih =>
    intro out' er' h'
    cases h' with
    | done hU' => have := hU.inj hT hU'; omega
    | empty i' hi' hU' hN' =>
      obtain rfl : i = i' := Int.ofNat_inj.1 (hU.inj hT hU')
      have := hN.inj hN'; omega
    | step i' k' hi' hU' hN' hR' =>
      obtain rfl : i = i' := Int.ofNat_inj.1 (hU.inj hT hU')
      obtain rfl : k = k' := Int.ofNat_inj.1 (hN.inj hN')
      exact ih hR'
theorem range_eq {r c : Int} {zs : List Int} {hid : List Bool} {i lo hi er lo' hi' er' : Int} (h : RangeRet r c zs hid i lo hi er) (h' : RefRangeRet r c zs hid i lo' hi' er') : lo = lo' ∧ hi = hi' ∧ er = er' := by
  have he : er = er' := h.1.trans h'.1.symm
  subst he
  by_cases h0 : er = 0
  · obtain ⟨hT, hh, k, rfl, hk, hS⟩ := h.2.2 h0
    obtain ⟨_, _, k', cn, hc, hkk, _, hS'⟩ := h'.2.2 h0
    obtain rfl : k = k' := Int.ofNat_inj.1 hkk
    have := (hS.x hT hk).inj hT (RSp.x hT hk ⟨cn, hc, hS'⟩)
    exact ⟨this.1, this.2, rfl⟩
  · have a := h.2.1 h0
    have b := h'.2.1 h0
    exact ⟨by omega, by omega, rfl⟩
theorem safe_eq {r c : Int} {zs : List Int} {hid : List Bool} {width : Int} {b b' : Bool} (h : SafeRet r c zs hid width b) (h' : SafeG r c zs hid width b') : b = b' := by
  have e := rngErr_ref r c zs hid.length 0
  rcases h with ⟨h0, rfl⟩ | ⟨h0, hT, hh, x, hx, rfl⟩
  · rcases h' with ⟨_, rfl⟩ | ⟨h1, hT, hh, _⟩
    · rfl
    · rw [hh] at h0
      have := hT.rngErr (k := 0) (by have := hT.len; have := hT.rng; obtain ⟨a, b, c, d⟩ := this; have := Int.mul_pos (show 0 < r by omega) (show 0 < _ by exact c); omega)
      exact absurd this h0
  · rcases h' with ⟨h1, rfl⟩ | ⟨h1, hT', hh', y, hy, rfl⟩
    · rw [hh] at h1; exact absurd hT.refErr h1
    · rw [(hx.x hT hh).inj hT (hy.x hT hh)]
theorem hide_eq {r c : Int} {zs : List Int} {least width : Int} {hid hid' : List Bool} {er er' : Int} (h : HideRet r c zs least width hid er) (h' : RefHideRet r c zs least width hid' er') : hid = hid' ∧ er = er' := by
  rcases h with ⟨h0, rfl, rfl⟩ | ⟨h0, hT, hR⟩
  · rcases h' with ⟨_, rfl, rfl⟩ | ⟨h1, _⟩
    · exact ⟨rfl, rfl⟩
    · exact absurd h1 h0
  · rcases h' with ⟨h1, _⟩ | ⟨_, _, hR'⟩
    · exact absurd h0 h1
    · exact (hR.x hT (by simp [smallL])).inj hT (hR'.x hT (by simp [smallL]))
end Go.Proofs.Ytmkgfgnpgoegcaa

/-
  Plain: the chapter's example.
-/
set_option linter.all false
namespace Go.Proofs.Ytmkgfgnpgoegcaa
open Go Go.W Go.RowKit

def exZ : List Int := [2, 30, 40, 50]
def allT : List Bool := [true, true, true, true]
theorem exOk : TblOk 2 2 exZ := tblOk_of (by decide) (by decide)
theorem exSh : Shape 2 4 (zF exZ) := exOk.shape
def tab4 (a b c d : Int) : Nat → Int := fun k => match k with | 0 => a | 1 => b | 2 => c | _ => d
theorem exOut (P u : Nat → Int) : Out 2 4 P u = u 0 * (P 0 - P 8) + u 1 * (P 0 - P 9) + u 2 * (P 1 - P 8) + u 3 * (P 1 - P 9) := by
  simp [Out, sumN]
theorem exZF : zF exZ 0 = 2 ∧ zF exZ 1 = 30 ∧ zF exZ 2 = 40 ∧ zF exZ 3 = 50 := ⟨rfl, rfl, rfl, rfl⟩
theorem exSums {h : Nat → Bool} {u : Nat → Int} (a : Alike 2 4 (zF exZ) h u) : u 0 + u 1 = 32 ∧ u 2 + u 3 = 90 ∧ u 0 + u 2 = 42 ∧ u 1 + u 3 = 80 := by
  have h0 := a.out (fun x => if x = 0 then 1 else 0)
  have h1 := a.out (fun x => if x = 1 then 1 else 0)
  have h2 := a.out (fun x => if x = 8 then 1 else 0)
  have h3 := a.out (fun x => if x = 9 then 1 else 0)
  rw [exOut, exOut] at h0 h1 h2 h3
  obtain ⟨e0, e1, e2, e3⟩ := exZF
  rw [e0, e1, e2, e3] at h0 h1 h2 h3
  simp at h0 h1 h2 h3
  omega
theorem exAlike (h : Nat → Bool) (d : Int) (h1 : -2 ≤ d) (h2 : d ≤ 30) (hh : ∀ k, k < 4 → h k = false → d = 0) : Alike 2 4 (zF exZ) h (tab4 (2 + d) (30 - d) (40 - d) (50 + d)) := by
  refine ⟨fun k hk => ?_, fun k hk hf => ?_, fun P => ?_⟩
  · match k, hk with
    | 0, _ => show 0 ≤ 2 + d; omega
    | 1, _ => show 0 ≤ 30 - d; omega
    | 2, _ => show 0 ≤ 40 - d; omega
    | 3, _ => show 0 ≤ 50 + d; omega
  · have := hh k hk hf
    subst this
    match k, hk with
    | 0, _ => rfl
    | 1, _ => rfl
    | 2, _ => rfl
    | 3, _ => rfl
  · rw [exOut, exOut]
    obtain ⟨e0, e1, e2, e3⟩ := exZF
    rw [e0, e1, e2, e3]
    show (2 + d) * (P 0 - P 8) + (30 - d) * (P 0 - P 9) + (40 - d) * (P 1 - P 8) + (50 + d) * (P 1 - P 9) = _
    simp only [Int.add_mul, Int.sub_mul, Int.mul_sub]
    omega
/-- all four cells are hidden: each can move by 32 -/
theorem exAll : ∀ k, k < 4 → ∃ lo, Exact 2 4 (zF exZ) (hF allT) k lo (lo + 32) ∧ (k = 0 → lo = 0) := by
  have hh : ∀ d : Int, ∀ k, k < 4 → hF allT k = false → d = 0 := fun d k hk hf => by
    match k, hk with
    | 0, _ => cases hf
    | 1, _ => cases hf
    | 2, _ => cases hf
    | 3, _ => cases hf
  have a := exAlike (hF allT) (-2) (by omega) (by omega) (hh _)
  have b := exAlike (hF allT) 30 (by omega) (by omega) (hh _)
  intro k hk
  match k, hk with
  | 0, _ => exact ⟨0, exact_of exSh (by omega) a rfl b rfl fun v av => by have := exSums av; have := av.pos 0 (by omega); have := av.pos 1 (by omega); omega, fun _ => rfl⟩
  | 1, _ => exact ⟨0, exact_of exSh (by omega) b rfl a rfl fun v av => by have := exSums av; have := av.pos 0 (by omega); have := av.pos 1 (by omega); omega, fun h => by omega⟩
  | 2, _ => exact ⟨10, exact_of exSh (by omega) b rfl a rfl fun v av => by have := exSums av; have := av.pos 0 (by omega); have := av.pos 1 (by omega); omega, fun h => by omega⟩
  | 3, _ => exact ⟨48, exact_of exSh (by omega) a rfl b rfl fun v av => by have := exSums av; have := av.pos 0 (by omega); have := av.pos 1 (by omega); omega, fun h => by omega⟩
/-- cell 3 is not hidden: no cell can move -/
theorem exFix (h : Nat → Bool) (k0 : Nat) (hk0 : k0 < 4) (hf : h k0 = false) : Exact 2 4 (zF exZ) h 0 2 2 :=
  exact_of exSh (by omega) (Alike.refl exSh.pos) rfl (Alike.refl exSh.pos) rfl fun v av => by
    have h1 := exSums av
    have h2 := av.same k0 hk0 hf
    obtain ⟨e0, e1, e2, e3⟩ := exZF
    match k0, hk0 with
    | 0, _ => omega
    | 1, _ => omega
    | 2, _ => omega
    | 3, _ => omega
theorem exRange {lo hi er : Int} (h : RangeRet 2 2 exZ allT 0 lo hi er) : er = 0 ∧ lo = 0 ∧ hi = 32 := by
  have he : er = 0 := h.1
  obtain ⟨hT, hh, k, hk, hk2, hS⟩ := h.2.2 he
  obtain rfl : k = 0 := by omega
  obtain ⟨lo', e, h0⟩ := exAll 0 (by omega)
  have := (hS.x hT hk2).inj hT ⟨2, rfl, e⟩
  have := h0 rfl
  omega
theorem exRange2 {lo hi er : Int} (h : RangeRet 2 2 exZ [true, true, false, false] 0 lo hi er) : er = 0 ∧ lo = 2 ∧ hi = 2 := by
  have he : er = 0 := h.1
  obtain ⟨hT, hh, k, hk, hk2, hS⟩ := h.2.2 he
  obtain rfl : k = 0 := by omega
  have := (hS.x hT hk2).inj hT ⟨2, rfl, exFix _ 3 (by omega) rfl⟩
  omega
theorem exRange3 {lo hi er : Int} (h : RangeRet 2 2 exZ [true, true, false, false] 3 lo hi er) : er = 0 ∧ lo = 50 ∧ hi = 50 := by
  have he : er = 0 := h.1
  obtain ⟨hT, hh, k, hk, hk2, hS⟩ := h.2.2 he
  obtain rfl : k = 3 := by omega
  have h2 := hS.2
  rw [if_pos (show [true, true, false, false].getD 3 false = false from rfl)] at h2
  exact ⟨he, h2.1, h2.2⟩
theorem exU {w : Int} (hw : 0 < w) (hid : List Bool) (k0 : Nat) (hk0 : k0 < 4) (h0 : hid.getD 0 false = true) (hf : hid.getD k0 false = false) (hl : 0 < hid.length) : UX 2 exZ w hid 0 :=
  .inr ⟨0, rfl, hl, ⟨h0, 2, 2, ⟨2, rfl, exFix _ k0 hk0 hf⟩, by omega⟩, fun j hj => absurd hj (by omega)⟩
theorem exHideG {w : Int} (hw : 0 < w) {out : List Bool} {er : Int} (hlast : HideG (UX 2 exZ w) 2 allT out er) : HideG (UX 2 exZ w) 2 [true, false, false, false] out er := by
  refine .step 0 1 (by decide) (exU hw _ 3 (by omega) rfl rfl (by decide)) (.inr ⟨0, 1, rfl, by decide, by decide, by unfold Free; decide, fun k' h => ?_, fun j' h => absurd h (by omega)⟩) ?_
  · obtain rfl : k' = 0 := by omega
    unfold Free; decide
  refine .step 0 2 (by decide) (exU hw _ 3 (by omega) rfl rfl (by decide)) (.inr ⟨1, 2, rfl, by decide, by decide, by unfold Free; decide, fun k' h => ?_, fun j' h => ?_⟩) ?_
  · have : k' = 0 ∨ k' = 1 := by omega
    rcases this with rfl | rfl <;> (unfold Free; decide)
  · obtain rfl : j' = 0 := by omega
    intro k hk
    have hk : k < 4 := hk
    match k, hk with
    | 0, _ => unfold Free; decide
    | 1, _ => unfold Free; decide
    | 2, _ => unfold Free; decide
    | 3, _ => unfold Free; decide
  refine .step 0 3 (by decide) (exU hw _ 3 (by omega) rfl rfl (by decide)) (.inr ⟨2, 3, rfl, by decide, by decide, by unfold Free; decide, fun k' h => ?_, fun j' h => ?_⟩) ?_
  · have : k' = 0 ∨ k' = 1 ∨ k' = 2 := by omega
    rcases this with rfl | rfl | rfl <;> (unfold Free; decide)
  · intro k hk
    have hk : k < 4 := hk
    have hj : j' = 0 ∨ j' = 1 := by omega
    rcases hj with rfl | rfl
    · match k, hk with
      | 0, _ => unfold Free; decide
      | 1, _ => unfold Free; decide
      | 2, _ => unfold Free; decide
      | 3, _ => unfold Free; decide
    · match k, hk with
      | 0, _ => unfold Free; decide
      | 1, _ => unfold Free; decide
      | 2, _ => unfold Free; decide
      | 3, _ => unfold Free; decide
  exact hlast
theorem exWide {w : Int} (hw : w ≤ 32) : UX 2 exZ w allT (-1) := .inl ⟨rfl, fun k hk => by
  obtain ⟨lo, e, _⟩ := exAll k hk
  exact .inr ⟨lo, lo + 32, ⟨2, rfl, e⟩, by omega⟩⟩
theorem exNarrow {w : Int} (hw : 32 < w) : UX 2 exZ w allT 0 := by
  obtain ⟨lo, e, _⟩ := exAll 0 (by omega)
  exact .inr ⟨0, rfl, by decide, ⟨rfl, lo, lo + 32, ⟨2, rfl, e⟩, by omega⟩, fun j hj => absurd hj (by omega)⟩
theorem exHide {hid : List Bool} {er : Int} (h : HideRet 2 2 exZ 5 3 hid er) : hid = allT ∧ er = 0 := by
  rcases h with ⟨h0, _⟩ | ⟨_, hT, hR⟩
  · exact absurd (by decide) h0
  · exact (hR.x hT rfl).inj hT (exHideG (by omega) (.done (exWide (by omega))))
theorem exHide2 {hid : List Bool} {er : Int} (h : HideRet 2 2 exZ 5 33 hid er) : er = 10 := by
  rcases h with ⟨h0, _⟩ | ⟨_, hT, hR⟩
  · exact absurd (by decide) h0
  · refine ((hR.x hT rfl).inj hT (exHideG (by omega) (.empty 0 (by decide) (exNarrow (by omega)) (.inl ⟨rfl, fun j hj k hk => ?_⟩)))).2
    intro hf
    have hk : k < 4 := hk
    have h1 := hf.1
    match k, hk with
    | 0, _ => cases h1
    | 1, _ => cases h1
    | 2, _ => cases h1
    | 3, _ => cases h1
theorem exSafe {b : Bool} (h : SafeRet 2 2 exZ allT 32 b) : b = true := by
  rcases h with ⟨h0, _⟩ | ⟨_, hT, hh, x, hx, rfl⟩
  · exact absurd (by decide) h0
  · rw [(hx.x hT hh).inj hT (exWide (by omega))]; rfl
theorem exSafe2 {b : Bool} (h : SafeRet 2 2 exZ allT 33 b) : b = false := by
  rcases h with ⟨h0, _⟩ | ⟨_, hT, hh, x, hx, rfl⟩
  · exact absurd (by decide) h0
  · rw [(hx.x hT hh).inj hT (exNarrow (by omega))]; rfl
end Go.Proofs.Ytmkgfgnpgoegcaa
