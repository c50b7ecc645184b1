/-
  Plain: the reference's interval, and the program's, are exact.
-/
import Derived.Test.YtmkgfgnpgoegcaaM7
set_option linter.all false
namespace Go.Proofs.Ytmkgfgnpgoegcaa
open Go Go.W Go.RowKit

def zF (zs : List Int) : Nat → Int := fun k => zs.getD k 0
def hF (hid : List Bool) : Nat → Bool := fun k => hid.getD k false
theorem sumN_list : ∀ (zs : List Int), sumN (zF zs) zs.length = zs.sum := by
  intro zs
  have key : ∀ k, k ≤ zs.length → sumN (zF zs) k = (zs.take k).sum := by
    intro k
    induction k with
    | zero => intro _; simp [sumN]
    | succ k ih =>
      intro hk
      rw [sumN, ih (by omega), sum_take_succ zs k (by omega)]
      simp [zF, show k < zs.length by omega]
  have := key zs.length (Nat.le_refl _)
  rwa [List.take_length] at this
theorem TblOk.shape {r : Int} {cn : Nat} {zs : List Int} (h : TblOk r cn zs) : Shape cn zs.length (zF zs) := by
  obtain ⟨r1, r2, c1, c2⟩ := h.rng
  have hl := h.len
  obtain ⟨rn, rfl⟩ := Int.eq_ofNat_of_zero_le (show 0 ≤ r by omega)
  have hl2 : zs.length = rn * cn := by exact_mod_cast hl
  refine ⟨by omega, by omega, by rw [hl2]; exact Nat.mul_le_mul_right _ (by omega), fun k hk => ?_, by rw [sumN_list]; exact h.sum⟩
  have := (h.cells k hk).1
  simpa [zF, hk] using this
theorem refSpan_exact {r : Int} {c i : Nat} {zs : List Int} {hid : List Bool} {lo hi : Int} (hT : TblOk r c zs) (hi' : i < zs.length) (h : RefSpan c zs hid i lo hi) : Exact c zs.length (zF zs) (hF hid) i lo hi := by
  have hS := hT.shape
  obtain ⟨r1, r2⟩ := hS.row hi'
  have hz := hS.pos i hi'
  unfold RefSpan at h
  split at h
  · rename_i hf
    obtain ⟨rfl, rfl⟩ := h
    refine exact_of hS hi' (Alike.refl hS.pos) rfl (Alike.refl hS.pos) rfl fun v a => ?_
    rw [a.same i hi' hf]; exact ⟨Int.le_refl _, Int.le_refl _⟩
  · rename_i hf
    have hh : hF hid i = true := by simpa [hF] using hf
    obtain ⟨a, b, ⟨ms, hp, hend⟩, ⟨ms2, hp2, hend2⟩, a0, a1, b0, b1, rfl, rfl⟩ := h
    have hfit := fits_net (i := i) (n := zs.length) (zs := zs) (hid := hid) hS.c0 hS.c8 hS.n8 zs.length (Nat.le_refl _)
    have hfit : Fits c zs.length i (hF hid) (zF zs) (netM c zs hid i zs.length) (zF zs) := hfit
    obtain ⟨u, F, Pt, O⟩ := hp.table hS.c0 hS.c8 hS.n8 (by omega) hfit (Part.refl hS.pos)
    obtain ⟨u2, F2, P2, O2⟩ := hp2.table hS.c0 hS.c8 hS.n8 (by omega) hfit (Part.refl hS.pos)
    have A := Pt.upd_down hi' hh (d := a) (by show 0 ≤ zs.getD i 0 - a; omega) O
    have A2 := P2.upd_up hi' hh (d := b) (by omega) O2
    refine exact_of hS hi' A (updF_same ..) A2 (updF_same ..) fun v av => ⟨?_, ?_⟩
    · rcases hend with hd | ⟨bl, hw, ht⟩
      · have := av.pos i hi'
        omega
      · have := down_le hS hi' (F.upd_i _) A (av.weak i) hw ht
        rw [updF_same] at this; exact this
    · rcases hend2 with hd | ⟨bl, hw, ht⟩
      · have := av.le hS.n8 hS.c0 hi'
        have := hS.sum
        have : 0 ≤ zs.getD i 0 := hz
        omega
      · have := up_le hS hi' (F2.upd_i _) A2 (av.weak i) hw ht
        rw [updF_same] at this; exact this

/-! ### the program's -/
theorem netOut_append (p : Int → Int) : ∀ (l1 : List Arc) (on1 : List Int) (l2 : List Arc) (on2 : List Int), on1.length = l1.length → netOut p (l1 ++ l2) (on1 ++ on2) = netOut p l1 on1 + netOut p l2 on2
  | [], [], l2, on2, _ => by simp [netOut]
  | a :: l1, x :: on1, l2, on2, h => by
    simp only [List.cons_append, netOut, netOut_append p l1 on1 l2 on2 (by simpa using h)]; omega
  | [], _ :: _, _, _, h => by simp at h
  | _ :: _, [], _, _, h => by simp at h
theorem netOut_shift (p : Int → Int) (k : Int) : ∀ (l : List Arc) (on : List Int), netOut (fun x => p x - k) l on = netOut p l on
  | [], _ => by simp [netOut]
  | _ :: _, [] => by simp [netOut]
  | a :: l, x :: on => by
    simp only [netOut, netOut_shift p k l on]
    rw [show p a.f - k - (p a.t - k) = p a.f - p a.t by omega]
theorem IsFlow.pot {n : Nat} {l : List Arc} {s t : Int} {on : List Int} {amt : Int} (hf : IsFlow n l s t on amt) (hn : NodesOk n l) (hs : 0 ≤ s ∧ s < n) (p : Int → Int) : netOut p l on = amt * (p s - p t) := by
  rw [← netOut_shift p (p t), netOut_sum n _ l on hn, sumTo_single _ s n hs.1 hs.2, hf.amt, Int.mul_comm]
  intro u hu0 hu1 hus
  by_cases hut : u = t
  · subst hut; simp
  · rw [hf.cons u hu0 hu1 hus hut]; simp
/-- a potential of the program's nodes, over the reference's numbers -/
def potP (r : Int) (p : Int → Int) : Nat → Int := fun x => if x < 8 then p x else p (r + ((x - 8 : Nat) : Int))
def arcsTerm (c : Nat) (P : Nat → Int) (d : Nat → Int) (k : Nat) : Int := d k * (P (k / c) - P (8 + k % c))
theorem VFlow.split {l1 l2 : List Arc} {on : List Int} (h : VFlow (l1 ++ l2) on) : ∃ on1 on2, on = on1 ++ on2 ∧ VFlow l1 on1 ∧ VFlow l2 on2 := by
  have hl := h.len
  rw [List.length_append] at hl
  refine ⟨on.take l1.length, on.drop l1.length, (List.take_append_drop _ _).symm, ⟨by simp; omega, fun i hi hi2 => ?_⟩, ⟨by simp; omega, fun i hi hi2 => ?_⟩⟩
  · have := h.bd i (by simp; omega) (by omega)
    rw [List.getElem_append_left hi] at this
    simpa using this
  · have := h.bd (l1.length + i) (by simp; omega) (by omega)
    rw [List.getElem_append_right (by omega)] at this
    simpa using this
theorem VFlow.append {l1 l2 : List Arc} {on1 on2 : List Int} (h1 : VFlow l1 on1) (h2 : VFlow l2 on2) : VFlow (l1 ++ l2) (on1 ++ on2) := by
  refine ⟨by simp [h1.len, h2.len], fun i hi hi2 => ?_⟩
  have e1 := h1.len
  by_cases h : i < l1.length
  · rw [List.getElem_append_left h, List.getElem_append_left (by omega)]
    exact h1.bd i h (by omega)
  · rw [List.getElem_append_right (by omega), List.getElem_append_right (by omega)]
    simp only [List.length_append] at hi hi2
    have := h2.bd (i - l1.length) (by omega) (by omega)
    simpa [e1] using this
end Go.Proofs.Ytmkgfgnpgoegcaa
