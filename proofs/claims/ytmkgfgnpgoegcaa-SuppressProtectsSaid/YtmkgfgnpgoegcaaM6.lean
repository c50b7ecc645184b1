/-
  Plain: pushes lead from a table to one that looks the same; what a cell can be.
-/
import Derived.Test.YtmkgfgnpgoegcaaM5
set_option linter.all false
namespace Go.Proofs.Ytmkgfgnpgoegcaa
open Go Go.W Go.RowKit

section
variable {c n i : Nat} {h : Nat → Bool} {z : Nat → Int}
/-- what stays of a table while something is pushed along a chain -/
structure Part (c n i : Nat) (h : Nat → Bool) (z u : Nat → Int) : Prop where
  pos : ∀ k, k < n → 0 ≤ u k
  same : ∀ k, k < n → okC n i h k = false → u k = z k
theorem mget_step {k : Int} {bl ms : List Int} {j a b : Nat} (hl : ms.length = 256) (hj : j < 16) (hbf : bfN bl j < 16) (hne : bfN bl j ≠ j) (hb : b < 16) :
    mget (stepM k bl ms j) a b = if a = j ∧ b = bfN bl j then mget ms a b + k else if a = bfN bl j ∧ b = j then mget ms a b - k else mget ms a b := by
  unfold stepM
  rw [mget_mset (by rw [mset_length]; exact hl) hj hbf hb]
  by_cases h1 : a = j ∧ b = bfN bl j
  · obtain ⟨rfl, rfl⟩ := h1
    rw [if_pos ⟨rfl, rfl⟩, if_pos ⟨rfl, rfl⟩, mget_mset hl hbf hj hbf, if_neg (by omega)]
  · rw [if_neg h1, if_neg h1, mget_mset hl hbf hj hb]
    by_cases h2 : a = bfN bl j ∧ b = j
    · obtain ⟨rfl, rfl⟩ := h2
      rw [if_pos ⟨rfl, rfl⟩]
    · rw [if_neg h2, if_neg h2]
theorem step_fits {ms bl : List Int} {u : Nat → Int} {kk : Int} {j : Nat} (hc : 0 < c) (hc8 : c ≤ 8) (hn : n ≤ 8 * c) (hF : Fits c n i h z ms u) (hP : Part c n i h z u) (hj : j < 16) (hbf : bfN bl j < 16) (hk0 : 0 < kk) (hk : kk ≤ mget ms (bfN bl j) j) :
    ∃ u', Fits c n i h z (stepM kk bl ms j) u' ∧ Part c n i h z u' ∧ ∀ P, Out c n P u' = Out c n P u + kk * (P (bfN bl j) - P j) := by
  rw [hF.at_ _ _ hbf hj] at hk
  obtain ⟨k, ok, hcase⟩ := resid_cell (c := c) (n := n) (i := i) (h := h) (z := z) (u := u) (a := bfN bl j) (b := j) (by omega)
  have hkn : k < n := by simp [okC] at ok; exact ok.1.1
  have h8 : k / c < 8 := by rw [Nat.div_lt_iff_lt_mul hc]; omega
  have hm := Nat.mod_lt k hc
  have hp := hP.pos k hkn
  have hother : ∀ v q, q < n → okC n i h q = false → updF u k v q = z q := fun v q hq ho => by
    rw [updF_other u v (fun e => by subst e; rw [ok] at ho; cases ho)]; exact hP.same q hq ho
  rcases hcase with ⟨e1, e2, e3⟩ | ⟨e1, e2, e3⟩
  · refine ⟨updF u k (u k + kk), ⟨by rw [stepM_length]; exact hF.len, fun a b ha hb => ?_⟩, ⟨fun q hq => ?_, hother _⟩, fun P => ?_⟩
    · rw [mget_step hF.len hj hbf (by omega) hb, resid_upd hc ok h8, hF.at_ a b ha hb, e1, e2]
      by_cases h1 : a = k / c ∧ b = 8 + k % c
      · obtain ⟨rfl, rfl⟩ := h1
        simp only [true_and, and_true, if_true, and_self]
        rw [if_neg (by omega), resid_fwd hc ok h8]; omega
      · rw [if_neg h1]
        by_cases h2 : a = 8 + k % c ∧ b = k / c
        · obtain ⟨rfl, rfl⟩ := h2
          simp only [true_and, and_true, if_true, and_self]
          try rw [if_neg (show ¬ (8 + k % c = k / c ∧ k / c = 8 + k % c) by omega)]
          rw [resid_bwd hc ok h8]
        · rw [if_neg h2, if_neg h2, if_neg h1]
    · by_cases e : q = k
      · subst e; rw [updF_same]; omega
      · rw [updF_other u _ e]; exact hP.pos q hq
    · rw [Out_upd P u _ hkn, e1, e2, show u k + kk - u k = kk by omega]
  · refine ⟨updF u k (u k - kk), ⟨by rw [stepM_length]; exact hF.len, fun a b ha hb => ?_⟩, ⟨fun q hq => ?_, hother _⟩, fun P => ?_⟩
    · rw [mget_step hF.len hj hbf (by omega) hb, resid_upd hc ok h8, hF.at_ a b ha hb, e1, e2]
      by_cases h1 : a = k / c ∧ b = 8 + k % c
      · obtain ⟨rfl, rfl⟩ := h1
        simp only [true_and, and_true, if_true, and_self]
        rw [resid_fwd hc ok h8]; omega
      · rw [if_neg h1, if_neg h1]
        by_cases h2 : a = 8 + k % c ∧ b = k / c
        · obtain ⟨rfl, rfl⟩ := h2
          simp only [true_and, and_true, if_true, and_self]
          try rw [if_neg (show ¬ (8 + k % c = k / c ∧ k / c = 8 + k % c) by omega)]
          rw [resid_bwd hc ok h8]
        · rw [if_neg h2, if_neg h2]
    · by_cases e : q = k
      · subst e; rw [updF_same]; omega
      · rw [updF_other u _ e]; exact hP.pos q hq
    · rw [Out_upd P u _ hkn, e1, e2, show u k - kk - u k = -kk by omega, Int.neg_mul, ← Int.mul_neg, Int.neg_sub]
theorem push_fits {bl : List Int} {kk : Int} {s : Nat} {rk : Nat → Nat} (hc : 0 < c) (hc8 : c ≤ 8) (hn : n ≤ 8 * c) (hk0 : 0 < kk) : ∀ (l : List Nat) (j : Nat) (ms : List Int) (u : Nat → Int), Chn bl s j l → l.Nodup → Fits c n i h z ms u → Part c n i h z u →
    (∀ x ∈ l, x < 16 ∧ bfN bl x < 16 ∧ kk ≤ mget ms (bfN bl x) x ∧ rk (bfN bl x) < rk x) →
    ∃ u', Fits c n i h z (pushM kk bl ms l) u' ∧ Part c n i h z u' ∧ ∀ P, Out c n P u' = Out c n P u + kk * (P s - P j)
  | _, _, ms, u, .nil, _, hF, hP, _ => ⟨u, hF, hP, fun P => by rw [Int.sub_self, Int.mul_zero, Int.add_zero]⟩
  | _, _, ms, u, .cons (j := j) (b := b) (l := l) hne hj hb hbl hch, hnd, hF, hP, hx => by
    obtain ⟨x1, x2, x3, x4⟩ := hx j (by simp)
    have hbf : bfN bl j = b := by unfold bfN; rw [hbl]; simp
    rw [List.nodup_cons] at hnd
    have hne2 : bfN bl j ≠ j := fun e => by rw [e] at x4; omega
    obtain ⟨u1, F1, P1, O1⟩ := step_fits (bl := bl) hc hc8 hn hF hP x1 x2 hk0 x3
    obtain ⟨u2, F2, P2, O2⟩ := push_fits hc hc8 hn hk0 l b (stepM kk bl ms j) u1 hch hnd.2 F1 P1 fun x hxl => by
      obtain ⟨y1, y2, y3, y4⟩ := hx x (by simp [hxl])
      refine ⟨y1, y2, ?_, y4⟩
      rw [mget_step hF.len x1 x2 hne2 y1]
      split
      · omega
      · rename_i hq1
        rw [if_neg (fun e : bfN bl x = bfN bl j ∧ x = j => hnd.1 (e.2 ▸ hxl))]; exact y3
    refine ⟨u2, F2, P2, fun P => ?_⟩
    rw [O2, O1, hbf, Int.add_assoc, ← Int.mul_add]
    congr 2; omega
theorem Pushes.table {s t : Nat} {most : Int} {ms0 ms : List Int} {tot : Int} {z0 : Nat → Int} (hc : 0 < c) (hc8 : c ≤ 8) (hn : n ≤ 8 * c) (ht : t < 16) (hF0 : Fits c n i h z ms0 z0) (hP0 : Part c n i h z z0) (hp : Pushes s t most ms0 ms tot) :
    ∃ u, Fits c n i h z ms u ∧ Part c n i h z u ∧ (∀ P, Out c n P u = Out c n P z0 + tot * (P s - P t)) := by
  induction hp with
  | init => exact ⟨z0, hF0, hP0, fun P => by rw [Int.zero_mul, Int.add_zero]⟩
  | @push ms tot bl l hp hlt hw h0 hch ih =>
    obtain ⟨u, F, Pt, O⟩ := ih
    obtain ⟨l', c1, c2, c3, c4, c5, rk, c6⟩ := hw.chain ht h0
    obtain rfl := hch.inj c1
    have hk := minK_le ms bl l (most - tot)
    obtain ⟨u2, F2, P2, O2⟩ := push_fits (kk := minK ms bl (most - tot) l) (rk := rk) hc hc8 hn (minK_pos (by omega) fun x hx => (c5 x hx).2.2) l t ms u hch c3 F Pt fun x hx => ⟨(c5 x hx).1, (c5 x hx).2.1, hk.2 x hx, c6 x hx⟩
    refine ⟨u2, F2, P2, fun P => ?_⟩
    rw [O2, O, Int.add_assoc, ← Int.add_mul]
end
end Go.Proofs.Ytmkgfgnpgoegcaa
