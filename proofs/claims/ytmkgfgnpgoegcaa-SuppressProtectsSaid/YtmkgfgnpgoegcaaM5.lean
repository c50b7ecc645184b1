/-
  Plain: the reference's matrix holds a table; its pushes move from table to table.
-/
import Derived.Test.YtmkgfgnpgoegcaaM4
set_option linter.all false
namespace Go.Proofs.Ytmkgfgnpgoegcaa
open Go Go.W Go.RowKit

theorem rc_iff {c a b k : Nat} (hb : b < c) : a * c + b = k ↔ a = k / c ∧ b = k % c := by
  constructor
  · rintro rfl
    have h1 : (a * c + b) / c = a := by
      rw [Nat.mul_comm, Nat.mul_add_div (by omega), Nat.div_eq_of_lt hb]; rfl
    have h2 : (a * c + b) % c = b := by
      rw [Nat.mul_comm, Nat.mul_add_mod, Nat.mod_eq_of_lt hb]
    exact ⟨h1.symm, h2.symm⟩
  · rintro ⟨rfl, rfl⟩
    exact Nat.div_add_mod' k c
def resid (c n i : Nat) (h : Nat → Bool) (z u : Nat → Int) (a b : Nat) : Int :=
  if a < 8 then (if 8 ≤ b ∧ b - 8 < c ∧ okC n i h (a * c + (b - 8)) = true then 131072 + z (a * c + (b - 8)) - u (a * c + (b - 8)) else 0)
  else (if b < 8 ∧ a - 8 < c ∧ okC n i h (b * c + (a - 8)) = true then u (b * c + (a - 8)) else 0)
section
variable {c n i : Nat} {h : Nat → Bool} {z u : Nat → Int}
theorem resid_cell {a b : Nat} (hne : resid c n i h z u a b ≠ 0) : ∃ k, okC n i h k = true ∧ ((a = k / c ∧ b = 8 + k % c ∧ resid c n i h z u a b = 131072 + z k - u k) ∨ (a = 8 + k % c ∧ b = k / c ∧ resid c n i h z u a b = u k)) := by
  unfold resid at hne ⊢
  split at hne
  · split at hne
    · rename_i h1 h2
      obtain ⟨e1, e2⟩ := (rc_iff (k := a * c + (b - 8)) h2.2.1).1 rfl
      refine ⟨a * c + (b - 8), h2.2.2, .inl ⟨e1, by omega, ?_⟩⟩
      rw [if_pos h1, if_pos h2]
    · exact absurd rfl hne
  · split at hne
    · rename_i h1 h2
      obtain ⟨e1, e2⟩ := (rc_iff (k := b * c + (a - 8)) h2.2.1).1 rfl
      refine ⟨b * c + (a - 8), h2.2.2, .inr ⟨by omega, e1, ?_⟩⟩
      rw [if_neg h1, if_pos h2]
    · exact absurd rfl hne
theorem resid_fwd {k : Nat} (hc : 0 < c) (hk : okC n i h k = true) (h8 : k / c < 8) : resid c n i h z u (k / c) (8 + k % c) = 131072 + z k - u k := by
  have e : k / c * c + (8 + k % c - 8) = k := by rw [Nat.add_sub_cancel_left]; exact Nat.div_add_mod' k c
  have := Nat.mod_lt k hc
  unfold resid
  rw [if_pos h8, e, if_pos ⟨by omega, by omega, hk⟩]
theorem resid_bwd {k : Nat} (hc : 0 < c) (hk : okC n i h k = true) (h8 : k / c < 8) : resid c n i h z u (8 + k % c) (k / c) = u k := by
  have e : k / c * c + (8 + k % c - 8) = k := by rw [Nat.add_sub_cancel_left]; exact Nat.div_add_mod' k c
  have := Nat.mod_lt k hc
  unfold resid
  rw [if_neg (by omega), e, if_pos ⟨h8, by omega, hk⟩]
theorem resid_upd {k : Nat} {v : Int} (hc : 0 < c) (hk : okC n i h k = true) (h8 : k / c < 8) (a b : Nat) : resid c n i h z (updF u k v) a b = if a = k / c ∧ b = 8 + k % c then 131072 + z k - v else if a = 8 + k % c ∧ b = k / c then v else resid c n i h z u a b := by
  by_cases h1 : a = k / c ∧ b = 8 + k % c
  · obtain ⟨rfl, rfl⟩ := h1
    rw [resid_fwd hc hk h8, if_pos ⟨rfl, rfl⟩, updF_same]
  · rw [if_neg h1]
    by_cases h2 : a = 8 + k % c ∧ b = k / c
    · obtain ⟨rfl, rfl⟩ := h2
      rw [resid_bwd hc hk h8, if_pos ⟨rfl, rfl⟩, updF_same]
    · rw [if_neg h2]
      unfold resid
      split
      · split
        · rename_i h3 h4
          rw [updF_other u v]
          intro e
          obtain ⟨e1, e2⟩ := (rc_iff h4.2.1).1 e
          exact h1 ⟨e1, by omega⟩
        · rfl
      · split
        · rename_i h3 h4
          rw [updF_other u v]
          intro e
          obtain ⟨e1, e2⟩ := (rc_iff h4.2.1).1 e
          exact h2 ⟨by omega, e1⟩
        · rfl
end
structure Fits (c n i : Nat) (h : Nat → Bool) (z : Nat → Int) (ms : List Int) (u : Nat → Int) : Prop where
  len : ms.length = 256
  at_ : ∀ a b, a < 16 → b < 16 → mget ms a b = resid c n i h z u a b
theorem fits_exists (c n i : Nat) (h : Nat → Bool) (z u : Nat → Int) : ∃ ms, Fits c n i h z ms u := by
  refine ⟨(List.range 256).map fun e => resid c n i h z u (e / 16) (e % 16), by simp, fun a b ha hb => ?_⟩
  unfold mget
  have e1 : (0 + a * 16 + b * 1) / 16 = a := by omega
  have e2 : (0 + a * 16 + b * 1) % 16 = b := by omega
  rw [List.getD_eq_getElem?_getD, List.getElem?_map, List.getElem?_range (by omega)]
  simp only [Option.map_some, Option.getD_some, e1, e2]
/-- the reference's first matrix holds the table itself -/
theorem fits_net {c n i : Nat} {zs : List Int} {hid : List Bool} (hc : 0 < c) (hc8 : c ≤ 8) (hn : n ≤ 8 * c) (k : Nat) (hk : k ≤ n) : Fits c k i (fun k => hid.getD k false) (fun k => zs.getD k 0) (netM c zs hid i k) (fun k => zs.getD k 0) := by
  induction k with
  | zero =>
    refine ⟨netM_length .., fun a b ha hb => ?_⟩
    have e1 : mget (netM c zs hid i 0) a b = 0 := by
      unfold mget netM zero256
      rw [List.getD_eq_getElem?_getD, List.getElem?_replicate]; split <;> rfl
    rw [e1]
    unfold resid okC
    split <;> simp
  | succ k ih =>
    have ih := ih (by omega)
    refine ⟨netM_length .., fun a b ha hb => ?_⟩
    have h8 : k / c < 8 := by rw [Nat.div_lt_iff_lt_mul hc]; omega
    have hm := Nat.mod_lt k hc
    have hl := netM_length c zs hid i k
    by_cases hh : netCond hid i k = true
    · have ok : okC (k + 1) i (fun k => hid.getD k false) k = true := by
        simp only [netCond, Bool.and_eq_true, Bool.not_eq_true', decide_eq_false_iff_not] at hh
        simp only [okC, Bool.and_eq_true, decide_eq_true_iff, Bool.not_eq_true', decide_eq_false_iff_not]
        exact ⟨⟨by omega, hh.1⟩, fun e => hh.2 (by rw [e])⟩
      rw [netM, if_pos hh, mget_mset (by rw [mset_length]; exact hl) (by omega) (by omega) hb, mget_mset hl (by omega) (by omega) hb]
      by_cases h1 : a = 8 + k % c ∧ b = k / c
      · obtain ⟨rfl, rfl⟩ := h1
        rw [if_pos ⟨rfl, rfl⟩, resid_bwd hc ok h8]
      · rw [if_neg h1]
        by_cases h2 : a = k / c ∧ b = 8 + k % c
        · obtain ⟨rfl, rfl⟩ := h2
          rw [if_pos ⟨rfl, rfl⟩, resid_fwd hc ok h8]; omega
        · rw [if_neg h2, ih.at_ a b ha hb]
          unfold resid
          have key : ∀ a' b' : Nat, b' < c → ¬ (a' = k / c ∧ b' = k % c) → okC (k + 1) i (fun k => hid.getD k false) (a' * c + b') = okC k i (fun k => hid.getD k false) (a' * c + b') := fun a' b' hb' hne => by
            have : a' * c + b' ≠ k := fun e => hne ((rc_iff hb').1 e)
            have : (a' * c + b' < k + 1) = (a' * c + b' < k) := by apply propext; omega
            simp only [okC, this]
          split
          · by_cases h3 : 8 ≤ b ∧ b - 8 < c
            · rw [key a (b - 8) h3.2 (fun e => h2 ⟨e.1, by omega⟩)]
            · rw [if_neg (fun e => h3 ⟨e.1, e.2.1⟩), if_neg (fun e => h3 ⟨e.1, e.2.1⟩)]
          · by_cases h3 : a - 8 < c
            · rw [key b (a - 8) h3 (fun e => h1 ⟨by omega, e.1⟩)]
            · rw [if_neg (fun e => h3 e.2.1), if_neg (fun e => h3 e.2.1)]
    · rw [netM, if_neg hh, ih.at_ a b ha hb]
      unfold resid
      have key : ∀ q : Nat, okC (k + 1) i (fun k => hid.getD k false) q = okC k i (fun k => hid.getD k false) q := fun q => by
        by_cases e : q = k
        · subst e
          have : netCond hid i q = false := by simpa using hh
          simp only [netCond] at this
          have h9 : decide ((q : Int) = (i : Int)) = decide (q = i) := by simp only [Int.ofNat_inj]
          rw [h9] at this
          simp only [okC, Bool.and_assoc, this]; simp
        · have : (q < k + 1) = (q < k) := by apply propext; omega
          simp only [okC, this]
      simp only [key]
end Go.Proofs.Ytmkgfgnpgoegcaa
