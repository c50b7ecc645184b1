/-
  Walk: up, solve.
-/
import Derived.Test.YtgjfjbphngamgaaB2
import Derived.Test.YtgjfjbphngamgaaBM5
set_option linter.all false
namespace Go.Proofs.Ytgjfjbphngamgaa
open Go Go.W Go.RowKit

def divI (t c : Int) : Int := if t ≤ 0 then 0 else (t + c - 1) / c
theorem divI_up {a b : Int} (ha : 0 ≤ a) (hb : 1 ≤ b) : (if 0 < (a + b - 1) / b then (a + b - 1) / b else 0) = divI a b := by
  have h0 : 0 ≤ (a + b - 1) / b := Int.ediv_nonneg (by omega) (by omega)
  unfold divI
  by_cases h : a ≤ 0
  · obtain rfl : a = 0 := by omega
    rw [if_pos (Int.le_refl _), Int.ediv_eq_zero_of_lt (by omega) (by omega)]; simp
  · rw [if_neg h]; split <;> omega
theorem boundUp (a b : Int) (w0 : World) (ha : 0 ≤ a ∧ a ≤ 1152921504606846976) (hb : 1 ≤ b ∧ b ≤ 32) :
    Calls Try.prog 32 #[I a, I b] w0 fun e w' => e = .returned (I (divI a b)) ∧ Below w0.heap.size w0 w' := by
  have H := SH.refl w0
  refine Calls.ofWP Try.func32 rfl Try.results32 Try.ntmps32 rfl ?_
  refine WP.seq ?_
  refine WP.region ?_
  refine OPS.val rfl rfl rfl (Ev.asI rfl) ?_
  refine OPS.nil ?_
  refine WP.seq ?_
  refine WP.region ?_
  refine OPS.val rfl rfl rfl (Ev.mvI rfl) ?_
  refine OPS.val rfl rfl rfl (Ev.mvI rfl) ?_
  refine OPS.val rfl rfl rfl (Ev.add rfl rfl (by unfold fits; omega)) ?_
  refine OPS.val rfl rfl rfl (Ev.sub rfl rfl (by unfold fits; omega)) ?_
  refine OPS.val rfl rfl rfl (Ev.mvI rfl) ?_
  refine OPS.val rfl rfl rfl (Ev.quo rfl rfl (by omega) (by omega) (by omega)) ?_
  refine OPS.val rfl rfl rfl (Ev.max rfl rfl) ?_
  refine OPS.val rfl rfl rfl (Ev.asI rfl) ?_
  refine OPS.nil ?_
  refine WP.ret ⟨_, rfl, ?_⟩
  exact ⟨by rw [← divI_up ha.1 hb.1]; rfl, H.below⟩
def emptyB (cp hv wt : Int) : Bool := decide (cp = 0) || decide (hv < wt)
def zeroB : List Value := [I 0, I 0, .slice none 0 0, .slice none 0 0]
def netP (C D : List Int) (tm : List (List Int)) : List Flo.Arc := Flo.colArcs (1 + C.length) 1 C tm ++ Flo.brArcs (C.length + D.length + 1) (1 + C.length) D
theorem netP_len {C D : List Int} {tm : List (List Int)} (h : Flo.Trans C D tm) : (netP C D tm).length ≤ 300 := by
  unfold netP
  have h1 := Flo.col_len (K := 16) (1 + C.length) C tm 1 (fun r hr => by
    obtain ⟨j, hj, rfl⟩ := List.mem_iff_getElem.1 hr
    refine Nat.le_of_not_lt fun hc => ?_
    have hx : Flo.tmAt tm j 16 = some (tm[j][16]) := by simp [Flo.tmAt, hj, hc]
    have := (h.tab.cols j 16 _ hx).2
    have := h.dl
    omega)
  have h2 := Flo.br_len (C.length + D.length + 1) D (1 + C.length)
  have := h.cl
  have := h.dl
  rw [List.length_append, h2]; omega
set_option maxHeartbeats 1000000 in
theorem netCheap {C D : List Int} {tm : List (List Int)} (h : Flo.Trans C D tm) (A : Option Addr) (cap : Nat) (w0 : World) (hz : Flo.ArcsAt w0 A (netP C D tm)) :
    Calls Try.prog 41 #[.agg #[I (C.length + D.length + 2 : Nat), .slice A (netP C D tm).length cap], I 0, I ((C.length + D.length + 2 : Nat) - 1), I D.sum] w0 fun e w' =>
      (¬ Flo.Hall C D tm → e = .returned (.tuple #[.agg #[I 0, I 0, .slice none 0 0, .slice none 0 0], I 15]) ∧ Below w0.heap.size w0 w') ∧
      (Flo.Hall C D tm → ∃ (go gp : Nat) (on pots : List Int), e = .returned (.tuple #[.agg #[I D.sum, I (Flo.costOf (netP C D tm) on), .slice (some ⟨go, 0, none⟩) on.length on.length, .slice (some ⟨gp, 0, none⟩) pots.length pots.length], I 0]) ∧
        Flo.NetOk (C.length + D.length + 2) (netP C D tm) ∧ Flo.IsFlow (C.length + D.length + 2) (netP C D tm) 0 (C.length + D.length + 1) on D.sum ∧ Flo.OptPot (Flo.potF pots) (netP C D tm) on ∧ pots.length = C.length + D.length + 2 ∧ Flo.potF pots 0 = 0 ∧ (∀ x : Int, 0 ≤ Flo.potF pots x ∧ Flo.potF pots x ≤ 1000000000) ∧
        SH w0 [] w' [⟨go, 3, on.map I⟩, ⟨gp, 3, pots.map I⟩]) := by
  have hlen := netP_len h
  have hP := Flo.stand_p C D
  have h2 : Flo.Two (netP C D tm) (Flo.colArcs (1 + C.length) 1 C tm) (Flo.brArcs (C.length + D.length + 1) (1 + C.length) D) := .inl rfl
  have hends := h.ends hP h2 (by omega)
  have hcl := h.cl
  have hdl := h.dl
  have hlast : ((C.length + D.length + 2 : Nat) : Int) - 1 = C.length + D.length + 1 := by omega
  have hds := h.dsum
  refine (Flo.flowCheapest (C.length + D.length + 2 : Nat) 0 ((C.length + D.length + 2 : Nat) - 1) D.sum A (netP C D tm) cap w0 hz).mono fun e w' ⟨most, hM, hr⟩ => ?_
  rw [hlast] at hM hr
  obtain ⟨_, _, hM3⟩ := hM
  obtain ⟨m, hm, hMax⟩ := hM3 hends
  obtain rfl : m = C.length + D.length + 2 := by omega
  have hH := Flo.most_hall hP h.tab (fun c hc => by have := h.cb c hc; omega) (by omega) h2 hMax
  have hce : Flo.cheapErr (C.length + D.length + 2 : Nat) 0 (C.length + D.length + 1) D.sum (netP C D tm) most = if most < D.sum then 15 else 0 := by
    rw [Flo.cheapErr, if_neg (by rw [hends]; simp), if_neg (by simp; omega)]
  rw [hce] at hr
  by_cases hHall : Flo.Hall C D tm
  · have hge := hH.2 hHall
    rw [if_neg (by omega)] at hr
    rcases hr with ⟨h0, _⟩ | ⟨_, m, s, d, go, gp, on, pots, hE, hCk, he, hs⟩
    · exact absurd rfl h0
    · refine ⟨fun hn => absurd hHall hn, fun _ => ⟨go, gp, on, pots, he, ?_⟩⟩
      have e1 := hE.hn
      have e2 := hE.hf
      have e3 := hE.ht
      obtain rfl : m = C.length + D.length + 2 := by omega
      obtain rfl : s = 0 := by omega
      obtain rfl : d = C.length + D.length + 1 := by omega
      refine ⟨hE.net, hCk.flow, hCk.opt, hCk.plen, ?_, fun x => ?_, hs⟩
      · exact hCk.zero
      · by_cases hx : x.toNat < C.length + D.length + 2
        · have := hCk.bd x.toNat hx
          have h3 : (65536 : Int) * (C.length + D.length + 2 : Nat) * (C.length + D.length + 2 : Nat) ≤ 65536 * 34 * 34 := Int.mul_le_mul (by omega) (by omega) (by omega) (by omega)
          unfold Flo.potF
          omega
        · have : Flo.potF pots x = 0 := by
            unfold Flo.potF
            have := hCk.plen
            simp [show ¬ x.toNat < pots.length by omega]
          rw [this]; omega
  · have hlt : most < D.sum := Int.not_le.1 fun hc => hHall (hH.1 hc)
    rw [if_pos hlt] at hr
    rcases hr with ⟨_, he, hb⟩ | ⟨h0, _⟩
    · exact ⟨fun _ => ⟨he, hb⟩, fun hc => absurd hc hHall⟩
    · cases h0
end Go.Proofs.Ytgjfjbphngamgaa
