/-
  Walk: the reference's way.
-/
import Derived.Test.YtmkgfgnpgoegcaaT17
set_option linter.all false
namespace Go.Proofs.Ytmkgfgnpgoegcaa
open Go Go.W Go.RowKit

def IN (n : Nat) : Value := .int .i64 (n : Int)
def negP (x : Int) : Bool := decide (x < 0)
/-- the breadth-first search, under way: bl: the node before each, Q: the queue -/
structure WInv (ms : List Int) (s : Nat) (bl : List Int) (Q : List Nat) (k i : Nat) : Prop where
  len : bl.length = 16
  room : Q.length + bl.countP negP ≤ 16
  lt : ∀ p (h : p < Q.length), Q[p] < 16
  head : Q[0]? = some s
  iff : ∀ j, j < 16 → (0 ≤ bl.getD j 0 ↔ j ∈ Q)
  par : ∀ p (h : p < Q.length), 0 < p → ∃ (q : Nat) (hq : q < p), bl.getD Q[p] 0 = (Q[q] : Nat) ∧ 0 < mget ms Q[q] Q[p]
  rt : bl.getD s 0 = s
  inj : ∀ p q (hp : p < Q.length) (hq : q < Q.length), Q[p] = Q[q] → p = q
  cl : ∀ p (h : p < Q.length), p < k → ∀ b, b < 16 → 0 < mget ms Q[p] b → b ∈ Q
  cli : ∀ (h : k < Q.length), ∀ b, b < i → b < 16 → 0 < mget ms Q[k] b → b ∈ Q
theorem WInv.init (ms : List Int) (s : Nat) (hs : s < 16) : WInv ms s ((List.replicate 16 (-1)).set s (s : Int)) [s] 0 0 where
  len := by simp
  room := by
    rw [List.countP_set (by rw [List.length_replicate]; exact hs), List.getElem_replicate, List.countP_replicate]
    have : negP (s : Int) = false := by simp [negP]
    rw [this]; simp [negP]
  lt p h := by simp at h; subst h; simpa using hs
  head := rfl
  iff j hj := by
    simp only [List.getD_eq_getElem?_getD, List.getElem?_set, List.mem_singleton]
    by_cases h : j = s
    · subst h; simp [hs]
    · rw [if_neg (fun e => h e.symm), List.getElem?_replicate, if_pos hj]; simp [h]
  par p h h0 := by simp at h; omega
  rt := by simp [List.getElem?_set, hs]
  inj p q hp hq _ := by simp at hp hq; omega
  cl p _ h := absurd h (by omega)
  cli _ b h := absurd h (by omega)
theorem WInv.skip {ms : List Int} {s : Nat} {bl : List Int} {Q : List Nat} {k i : Nat} (h : WInv ms s bl Q k i) (hi : i ∈ Q ∨ ∀ hk : k < Q.length, mget ms Q[k] i ≤ 0) : WInv ms s bl Q k (i + 1) := by
  refine { h with cli := fun hk b hb hb16 hm => ?_ }
  by_cases hbi : b < i
  · exact h.cli hk b hbi hb16 hm
  · obtain rfl : b = i := by omega
    rcases hi with hi | hi
    · exact hi
    · have := hi hk; omega
theorem WInv.add {ms : List Int} {s : Nat} {bl : List Int} {Q : List Nat} {k i : Nat} (h : WInv ms s bl Q k i) (hk : k < Q.length) (hi : i < 16) (hneg : bl.getD i 0 < 0) (hm : 0 < mget ms Q[k] i) : WInv ms s (bl.set i (Q[k] : Nat)) (Q ++ [i]) k (i + 1) := by
  have hni : i ∉ Q := fun hc => by have := (h.iff i hi).2 hc; omega
  have hlen := h.len
  have hget : ∀ j, (bl.set i (Q[k] : Nat)).getD j 0 = if j = i then ((Q[k] : Nat) : Int) else bl.getD j 0 := fun j => by
    simp only [List.getD_eq_getElem?_getD, List.getElem?_set]
    by_cases hj : j = i
    · subst hj; simp [hlen, hi]
    · rw [if_neg (fun e => hj e.symm), if_neg hj]
  have hQi : ∀ p (hp : p < Q.length), Q[p] ≠ i := fun p hp he => hni (he ▸ List.getElem_mem hp)
  refine ⟨by simpa using hlen, ?_, fun p hp => ?_, ?_, fun j hj => ?_, fun p hp h0 => ?_, ?_, fun p q hp hq he => ?_, fun p hp hpk b hb hmb => ?_, fun hk2 b hb hb16 hmb => ?_⟩
  · rw [List.countP_set (by omega)]
    have h1 : negP bl[i] = true := by
      have : bl.getD i 0 = bl[i] := by simp [hlen, hi]
      simpa [negP, ← this] using hneg
    have h2 : negP ((Q[k] : Nat) : Int) = false := by simp [negP]
    have h3 : 0 < bl.countP negP := List.countP_pos_iff.2 ⟨bl[i], List.getElem_mem _, h1⟩
    have := h.room
    rw [h1, h2]; simp; omega
  · simp only [List.length_append, List.length_cons, List.length_nil] at hp
    by_cases hp2 : p < Q.length
    · rw [List.getElem_append_left hp2]; exact h.lt p hp2
    · obtain rfl : p = Q.length := by omega
      simpa using hi
  · have := h.head
    rw [List.getElem?_append_left (by omega)]; exact this
  · rw [hget]
    by_cases hji : j = i
    · subst hji; simp
    · rw [if_neg hji, h.iff j hj]; simp [hji]
  · simp only [List.length_append, List.length_cons, List.length_nil] at hp
    by_cases hp2 : p < Q.length
    · obtain ⟨q, hq, h1, h2⟩ := h.par p hp2 h0
      refine ⟨q, hq, ?_⟩
      rw [hget]
      simp only [List.getElem_append_left hp2, List.getElem_append_left (show q < Q.length by omega)]
      rw [if_neg (hQi p hp2)]
      exact ⟨h1, h2⟩
    · obtain rfl : p = Q.length := by omega
      refine ⟨k, hk, ?_⟩
      rw [hget]
      simp only [List.getElem_append_left hk]
      simpa using hm
  · rw [hget]
    have hs : s ∈ Q := List.mem_of_getElem? h.head
    rw [if_neg (fun e : s = i => hni (e ▸ hs))]; exact h.rt
  · simp only [List.length_append, List.length_cons, List.length_nil] at hp hq
    by_cases hp2 : p < Q.length
    · by_cases hq2 : q < Q.length
      · rw [List.getElem_append_left hp2, List.getElem_append_left hq2] at he
        exact h.inj p q hp2 hq2 he
      · obtain rfl : q = Q.length := by omega
        rw [List.getElem_append_left hp2] at he
        exact absurd (by simpa using he) (hQi p hp2)
    · obtain rfl : p = Q.length := by omega
      by_cases hq2 : q < Q.length
      · rw [List.getElem_append_left hq2] at he
        exact absurd (by simpa using he.symm) (hQi q hq2)
      · omega
  · have hp2 : p < Q.length := by omega
    rw [List.getElem_append_left hp2] at hmb
    exact List.mem_append_left _ (h.cl p hp2 hpk b hb hmb)
  · rw [List.getElem_append_left hk] at hmb
    by_cases hbi : b < i
    · exact List.mem_append_left _ (h.cli hk b hbi hb16 hmb)
    · obtain rfl : b = i := by omega
      simp
theorem WInv.next {ms : List Int} {s : Nat} {bl : List Int} {Q : List Nat} {k : Nat} (h : WInv ms s bl Q k 16) : WInv ms s bl Q (k + 1) 0 := by
  refine { h with cl := fun p hp hpk b hb hm => ?_, cli := fun _ b hb => absurd hb (by omega) }
  by_cases hpk2 : p < k
  · exact h.cl p hp hpk2 b hb hm
  · obtain rfl : p = k := by omega
    exact h.cli hp b hb hb hm
/-- what way returns -/
structure WayRet (ms : List Int) (s : Nat) (bl : List Int) : Prop where
  len : bl.length = 16
  rt : bl.getD s 0 = s
  par : ∃ rk : Nat → Nat, (∀ j, rk j ≤ 16) ∧ ∀ j, j < 16 → 0 ≤ bl.getD j 0 → j ≠ s → ∃ b : Nat, bl.getD j 0 = b ∧ b < 16 ∧ rk b < rk j ∧ 0 ≤ bl.getD b 0 ∧ 0 < mget ms b j
  cl : ∀ a b, a < 16 → b < 16 → 0 ≤ bl.getD a 0 → bl.getD b 0 < 0 → mget ms a b ≤ 0
theorem WInv.ret {ms : List Int} {s : Nat} {bl : List Int} {Q : List Nat} (h : WInv ms s bl Q Q.length 0) : WayRet ms s bl where
  len := h.len
  rt := h.rt
  par := by
    refine ⟨fun j => Q.idxOf j, fun j => by have := List.idxOf_le_length (a := j) (l := Q); have := h.room; show Q.idxOf j ≤ 16; omega, fun j hj h0 hne => ?_⟩
    have hm := (h.iff j hj).1 h0
    obtain ⟨p, hp, rfl⟩ := List.mem_iff_getElem.1 hm
    have hp0 : 0 < p := by
      rcases Nat.eq_zero_or_pos p with h1 | h1
      · subst h1
        have := h.head
        rw [List.getElem?_eq_getElem hp] at this
        exact absurd (Option.some.inj this) hne
      · exact h1
    obtain ⟨q, hq, h1, h2⟩ := h.par p hp hp0
    have hq2 : q < Q.length := by omega
    have hidx : ∀ r (hr : r < Q.length), Q.idxOf Q[r] = r := fun r hr => by
      have h3 : Q.idxOf Q[r] < Q.length := List.idxOf_lt_length_iff.2 (List.getElem_mem hr)
      exact h.inj _ _ h3 hr (List.getElem_idxOf h3)
    refine ⟨Q[q], h1, h.lt q hq2, ?_, (h.iff _ (h.lt q hq2)).2 (List.getElem_mem hq2), h2⟩
    simp only [hidx]; exact hq
  cl a b ha hb h0 hn := by
    have hm := (h.iff a ha).1 h0
    obtain ⟨p, hp, rfl⟩ := List.mem_iff_getElem.1 hm
    rcases Int.lt_or_le 0 (mget ms Q[p] b) with h1 | h1
    · have := (h.iff b hb).2 (h.cl p hp hp b hb h1)
      omega
    · exact h1

set_option maxHeartbeats 1000000 in
theorem refWay (ms : List Int) (s : Nat) (w0 : World) (hl : ms.length = 256) (hs : s < 16) :
    Calls Try.prog 38 #[.agg (ms.map I).toArray, I s] w0
      fun e w' => ∃ bl, e = .returned (.agg (bl.map I).toArray) ∧ WayRet ms s bl ∧ Below w0.heap.size w0 w' := by
  have H := SH.refl w0
  refine Calls.ofWPc Try.func38 rfl Try.results38 Try.ntmps38 rfl ?_
  refine WP.seq ?_
  refine WP.region ?_
  refine OPS.box rfl rfl rfl rfl (cA rfl) H ?_
  clear H; intro g2 w H
  refine OPS.alloc rfl rfl rfl rfl (zero_run rfl) rfl H ?_
  clear H; intro g4 w H
  refine OPS.nil ?_
  refine WP.seq ?_
  refine WP.region ?_
  refine OPS.alloc rfl rfl rfl rfl (zero_run rfl) rfl H ?_
  clear H; intro g5 w H
  refine OPS.nil ?_
  refine WP.seq ?_
  refine WP.seq ?_
  refine WP.region ?_
  refine OPS.val rfl rfl rfl (Ev.asI rfl) ?_
  refine OPS.nil ?_
  refine WP.block ?_
  refine WP.loop [6, 10, 11, 12, 13, 14, 15] (fun k e w' => ∃ j : Nat, j + k = 16 ∧ e 6 = I j ∧ SH w0 [] w' [⟨g5, 54, (fillL (List.replicate 16 (-1)) 0 j).map I⟩, ⟨g4, 54, (List.replicate 16 0).map I⟩, ⟨g2, 56, ms.map I⟩]) (16) (⟨0, by omega, rfl, H⟩) ?_
  clear H
  rintro k u w ⟨j, hk, h6, H⟩
  refine WP.know (t := 6) h6 ?_
  refine WP.seq ?_
  refine WP.seq ?_
  refine WP.region ?_
  refine OPS.val rfl rfl rfl (Ev.mvI rfl) ?_
  refine OPS.val rfl rfl rfl (Ev.lss rfl rfl) ?_
  refine OPS.nil ?_
  refine WP.cond rfl (fun hc3 => ?_) (fun hc3 => ?_)
  · have hlt : j < 16 := by simp at hc3; omega
    refine WP.skip ?_
    refine WP.seq ?_
    refine WP.block ?_
    refine WP.region ?_
    refine OPS.val rfl rfl rfl (Ev.mvI rfl) ?_
    refine OPS.val rfl rfl rfl (Ev.indexAddrA (arr_run rfl) (size_run rfl) rfl rfl rfl (by omega)) ?_
    refine OPS.store 0 _ rfl rfl rfl (size_run rfl) rfl (cI rfl) rfl rfl H rfl (by rw [List.length_map, fillL_length _ _ _ (by rw [List.length_replicate]; omega), List.length_replicate]; omega) ?_
    clear H; intro w H
    replace H : SH w0 [] w [⟨g5, 54, (fillL (List.replicate 16 (-1)) 0 (j + 1)).map I⟩, ⟨g4, 54, (List.replicate 16 0).map I⟩, ⟨g2, 56, ms.map I⟩] := by
      have h1 := fillL_set (List.replicate 16 (-1)) (0 : Int) j (by rw [List.length_replicate]; exact hlt)
      rw [List.getElem_replicate] at h1
      rw [← h1, ← putL_ones]
      have H : SH w0 [] w [⟨g5, 54, putL ((fillL (List.replicate 16 (-1)) (0 : Int) j).map I) (0 + j * 1) [I (-1)]⟩, _, _] := H
      rw [show 0 + j * 1 = j by omega] at H
      exact H
    refine OPS.nil ?_
    refine WP.region ?_
    refine OPS.val rfl rfl rfl (Ev.mvI rfl) ?_
    refine OPS.val rfl rfl rfl (Ev.add rfl rfl (by unfold fits; omega)) ?_
    refine OPS.val rfl rfl rfl (Ev.asI rfl) ?_
    refine OPS.nil ?_
    exact ⟨(by repeat (first | exact Agree.refl _ _ | exact Agree.mix _ _ _ | refine Agree.upd rfl ?_ | refine Agree.mix2 rfl ?_)), k - 1, by omega, j + 1, by omega, rfl, H⟩
  obtain rfl : j = 16 := by simp at hc3; omega
  rw [show fillL (List.replicate 16 (-1)) (0 : Int) 16 = List.replicate 16 (-1) from fillL_all (List.replicate 16 (-1)) 0] at H
  refine WP.exit ?_
  refine XB.hit ?_
  refine WP.seq ?_
  refine WP.region ?_
  refine OPS.val rfl rfl rfl (Ev.mvI rfl) ?_
  refine OPS.val rfl rfl rfl (Ev.mvI rfl) ?_
  refine OPS.val rfl rfl rfl (Ev.indexAddrA (arr_run rfl) (size_run rfl) rfl rfl rfl (by omega)) ?_
  refine OPS.store 0 _ rfl rfl rfl (size_run rfl) rfl (cI rfl) rfl rfl H rfl (by rw [List.length_map, List.length_replicate]; omega) ?_
  clear H; intro w H
  replace H : SH w0 [] w [⟨g5, 54, ((List.replicate 16 (-1)).set s (s : Int)).map I⟩, ⟨g4, 54, (List.replicate 16 0).map I⟩, ⟨g2, 56, ms.map I⟩] := by
    rw [← putL_ones]
    have H : SH w0 [] w [⟨g5, 54, putL ((List.replicate 16 (-1)).map I) (0 + s * 1) [I s]⟩, _, _] := H
    rw [show 0 + s * 1 = s by omega] at H
    exact H
  refine OPS.nil ?_
  refine WP.seq ?_
  refine WP.region ?_
  refine OPS.val rfl rfl rfl (Ev.mvI rfl) ?_
  refine OPS.buildSlice rfl rfl rfl rfl (bsl_22_1_0 rfl) H ?_
  clear H; intro g20 w H
  refine OPS.val rfl rfl rfl (Ev.asS rfl) ?_
  refine OPS.nil ?_
  refine WP.seq ?_
  refine WP.seq ?_
  refine WP.region ?_
  refine OPS.val rfl rfl rfl (Ev.asI rfl) ?_
  refine OPS.nil ?_
  refine WP.block ?_
  refine WP.loop [7, 8, 9, 21, 22, 23, 24, 25, 26, 27, 28, 29, 30, 31, 32, 33, 34, 35, 36, 37, 38, 39, 40, 41, 42, 43, 44, 45, 46, 47, 48, 49, 50, 51, 52, 53, 54, 55] (fun g e w' => ∃ (k : Nat) (bl : List Int) (Q : List Nat) (A : Option Addr) (cap : Nat) (Lo : List Blk), k + g = 16 ∧ k ≤ Q.length ∧ e 7 = .slice A Q.length cap ∧ e 8 = I k ∧ WInv ms s bl Q k 0 ∧ OwnS A cap Q.length (Q.map IN) 3 1 Lo ∧ SH w0 [] w' ([⟨g5, 54, bl.map I⟩, ⟨g4, 54, (List.replicate 16 0).map I⟩, ⟨g2, 56, ms.map I⟩] ++ Lo)) (16) (⟨0, _, [s], some ⟨g20, 0, none⟩, 1, [⟨g20, 3, [I s]⟩], by omega, by simp, rfl, rfl, WInv.init ms s hs, ⟨rfl, .inr ⟨g20, [], rfl, rfl, by simp, by simp [maxLen], by simp⟩⟩, H.reidx [1, 2, 3, 0] (by decide) rfl⟩) ?_
  clear H
  rintro g u w ⟨k, bl, Q, A, cap, Lo, hg, hkQ, h7, h8, hW, hO, H⟩
  refine WP.know (t := 7) h7 (WP.know (t := 8) h8 ?_)
  have hroom := hW.room
  refine WP.seq ?_
  refine WP.seq ?_
  refine WP.region ?_
  refine OPS.val rfl rfl rfl (Ev.mvI rfl) ?_
  refine OPS.val rfl rfl rfl (Ev.mvS rfl) ?_
  refine OPS.val rfl rfl rfl (Ev.len (el_run rfl) rfl) ?_
  refine OPS.val rfl rfl rfl (Ev.lss rfl rfl) ?_
  refine OPS.nil ?_
  refine WP.cond rfl (fun hc9 => ?_) (fun hc9 => ?_)
  · have hkQ2 : k < Q.length := by simp at hc9; omega
    refine WP.skip ?_
    refine WP.seq ?_
    refine WP.block ?_
    refine WP.seq ?_
    refine WP.region ?_
    refine OPS.val rfl rfl rfl (Ev.asI rfl) ?_
    refine OPS.nil ?_
    refine WP.block ?_
    refine WP.loop [7, 9, 27, 28, 29, 30, 31, 32, 33, 34, 35, 36, 37, 38, 39, 40, 41, 42, 43, 44, 45, 46, 47, 48, 49, 50, 51, 52, 53, 54, 55] (fun g e w' => ∃ (i : Nat) (bl : List Int) (Q : List Nat) (A : Option Addr) (cap : Nat) (Lo : List Blk), i + g = 16 ∧ k < Q.length ∧ e 7 = .slice A Q.length cap ∧ e 9 = I i ∧ WInv ms s bl Q k i ∧ OwnS A cap Q.length (Q.map IN) 3 1 Lo ∧ SH w0 [] w' ([⟨g5, 54, bl.map I⟩, ⟨g4, 54, (List.replicate 16 0).map I⟩, ⟨g2, 56, ms.map I⟩] ++ Lo)) (16) (⟨0, bl, Q, A, cap, Lo, by omega, hkQ2, rfl, rfl, hW, hO, H⟩) ?_
    clear H hO hW hroom
    rintro g3 u3 w ⟨i, bl2, Q2, A2, cap2, Lo2, hg3, hkQ3, h7, h9, hW, hO, H⟩
    refine WP.know (t := 7) h7 (WP.know (t := 9) h9 ?_)
    have hroom := hW.room
    have hblen := hW.len
    refine WP.seq ?_
    refine WP.seq ?_
    refine WP.region ?_
    refine OPS.val rfl rfl rfl (Ev.mvI rfl) ?_
    refine OPS.val rfl rfl rfl (Ev.lss rfl rfl) ?_
    refine OPS.nil ?_
    refine WP.cond rfl (fun hc12 => ?_) (fun hc12 => ?_)
    · have hi : i < 16 := by simp at hc12; omega
      have hQ16 : Q2[k] < 16 := hW.lt k hkQ3
      have c1 : w.cell? ⟨g5, 0 + i * 1, none⟩ = some (I (bl2.getD i 0)) := by rw [show 0 + i * 1 = i by omega]; exact intCell H 0 rfl i (by omega)
      obtain ⟨bq, oq, hA, c2⟩ := (hO.ones H).1 k hkQ3
      subst hA
      have c3 : w.cell? ⟨g2, 0 + Q2[k] * 16 + i * 1, none⟩ = some (I (mget ms Q2[k] i)) := intCell H 2 rfl _ (by omega)
      unfold IN at c2
      refine WP.skip ?_
      refine WP.seq ?_
      refine WP.block ?_
      refine WP.seq ?_
      refine WP.region ?_
      refine OPS.val rfl rfl rfl (Ev.mvI rfl) ?_
      refine OPS.val rfl rfl rfl (Ev.indexAddrA (arr_run rfl) (size_run rfl) rfl rfl rfl (by omega)) ?_
      refine OPS.val rfl rfl rfl (Ev.load1 (agg_run rfl) rfl (by first | exact H.ldL 0 rfl _ rfl | exact H.ldL 1 rfl _ rfl | exact H.ldL 2 rfl _ rfl | exact H.ldL 3 rfl _ rfl | exact H.ldL 4 rfl _ rfl | exact H.ldL 5 rfl _ rfl | exact H.ldL 6 rfl _ rfl | exact H.ldL 7 rfl _ rfl | exact H.ld0 (by assumption) | assumption | exact H.ldS (by assumption) (by assumption))) ?_
      refine OPS.val rfl rfl rfl (Ev.lss rfl rfl) ?_
      refine OPS.val rfl rfl rfl (Ev.mvB rfl) ?_
      refine OPS.gval rfl rfl rfl rfl rfl (fun hg => Ev.mvS (by first | rfl | exact gvE hg rfl)) ?_
      refine OPS.gval rfl rfl rfl rfl rfl (fun hg => Ev.mvI (by first | rfl | exact gvE hg rfl)) ?_
      refine OPS.gval rfl rfl rfl rfl rfl (fun hg => (by first | exact Ev.indexAddr1 (el_run rfl) (size_run rfl) (by first | rfl | exact gvE hg rfl) (by first | rfl | exact gvE hg rfl) rfl (by omega) | exact Ev.indexAddr (el_run rfl) (size_run rfl) (by first | rfl | exact gvE hg rfl) (by first | rfl | exact gvE hg rfl) rfl (by omega))) ?_
      refine OPS.gval rfl rfl rfl rfl rfl (fun hg => Ev.load1 (agg_run rfl) (by first | rfl | exact gvE hg rfl) (by first | exact H.ldL 0 rfl _ rfl | exact H.ldL 1 rfl _ rfl | exact H.ldL 2 rfl _ rfl | exact H.ldL 3 rfl _ rfl | exact H.ldL 4 rfl _ rfl | exact H.ldL 5 rfl _ rfl | exact H.ldL 6 rfl _ rfl | exact H.ldL 7 rfl _ rfl | exact H.ld0 (by assumption) | assumption | exact H.ldS (by assumption) (by assumption))) ?_
      refine OPS.gval rfl rfl rfl rfl rfl (fun hg => Ev.mvI (by first | rfl | exact gvE hg rfl)) ?_
      refine OPS.gval rfl rfl rfl rfl rfl (fun hg => Ev.indexAddrA (arr_run rfl) (size_run rfl) (by first | rfl | exact gvE hg rfl) (by first | rfl | exact gvE hg rfl) rfl (by omega)) ?_
      refine OPS.gval rfl rfl rfl rfl rfl (fun hg => Ev.indexAddrA (arr_run rfl) (size_run rfl) (by first | rfl | exact gvE hg rfl) (by first | rfl | exact gvE hg rfl) rfl (by omega)) ?_
      refine OPS.gval rfl rfl rfl rfl rfl (fun hg => Ev.load1 (agg_run rfl) (by first | rfl | exact gvE hg rfl) (by first | exact H.ldL 0 rfl _ rfl | exact H.ldL 1 rfl _ rfl | exact H.ldL 2 rfl _ rfl | exact H.ldL 3 rfl _ rfl | exact H.ldL 4 rfl _ rfl | exact H.ldL 5 rfl _ rfl | exact H.ldL 6 rfl _ rfl | exact H.ldL 7 rfl _ rfl | exact H.ld0 (by assumption) | assumption | exact H.ldS (by assumption) (by assumption))) ?_
      refine OPS.gval rfl rfl rfl rfl rfl (fun hg => Ev.gtr (by first | rfl | exact gvE hg rfl) (by first | rfl | exact gvE hg rfl)) ?_
      refine OPS.val rfl rfl rfl ((by first | exact Ev.pickOr rfl rfl rfl | exact Ev.pickAnd rfl rfl rfl)) ?_
      refine OPS.nil ?_
      refine WP.cond rfl (fun hc14 => ?_) (fun hc14 => ?_)
      · have hneg : bl2.getD i 0 < 0 ∧ 0 < mget ms Q2[k] i := by
          rw [Bool.and_eq_true, decide_eq_true_iff, decide_eq_true_iff] at hc14; exact hc14
        have hW2 := hW.add hkQ3 hi hneg.1 hneg.2
        refine WP.seq ?_
        refine WP.region ?_
        refine OPS.val rfl rfl rfl (Ev.mvI rfl) ?_
        refine OPS.val rfl rfl rfl (Ev.mvS rfl) ?_
        refine OPS.val rfl rfl rfl (Ev.mvI rfl) ?_
        refine OPS.val rfl rfl rfl ((by first | exact Ev.indexAddr1 (el_run rfl) (size_run rfl) rfl rfl rfl (by omega) | exact Ev.indexAddr (el_run rfl) (size_run rfl) rfl rfl rfl (by omega))) ?_
        refine OPS.val rfl rfl rfl (Ev.load1 (agg_run rfl) rfl (by first | exact H.ldL 0 rfl _ rfl | exact H.ldL 1 rfl _ rfl | exact H.ldL 2 rfl _ rfl | exact H.ldL 3 rfl _ rfl | exact H.ldL 4 rfl _ rfl | exact H.ldL 5 rfl _ rfl | exact H.ldL 6 rfl _ rfl | exact H.ldL 7 rfl _ rfl | exact H.ld0 (by assumption) | assumption | exact H.ldS (by assumption) (by assumption))) ?_
        refine OPS.val rfl rfl rfl (Ev.indexAddrA (arr_run rfl) (size_run rfl) rfl rfl rfl (by omega)) ?_
        refine OPS.store 0 _ rfl rfl rfl (size_run rfl) rfl (cI rfl) rfl rfl H rfl (by rw [List.length_map]; omega) ?_
        clear H; intro w H
        replace H : SH w0 [] w ([⟨g5, 54, (bl2.set i (Q2[k] : Nat)).map I⟩, ⟨g4, 54, (List.replicate 16 0).map I⟩, ⟨g2, 56, ms.map I⟩] ++ Lo2) := by
          rw [← putL_ones]
          have H : SH w0 [] w ([⟨g5, 54, putL (bl2.map I) (0 + i * 1) [I (Q2[k] : Nat)]⟩, _, _] ++ Lo2) := H
          rw [show 0 + i * 1 = i by omega] at H
          exact H
        refine OPS.nil ?_
        refine WP.region ?_
        refine OPS.val rfl rfl rfl (Ev.mvS rfl) ?_
        refine OPS.val rfl rfl rfl (Ev.mvI rfl) ?_
        refine OPS.buildSlice rfl rfl rfl rfl (bsl_22_1_0 rfl) H ?_
        clear H; intro g54 w H
        refine OPS.append (m := 1) (news := [IN i]) (R := [⟨g54, 3, [IN i]⟩, ⟨g5, 54, (bl2.set i (Q2[k] : Nat)).map I⟩, ⟨g4, 54, (List.replicate 16 0).map I⟩, ⟨g2, 56, ms.map I⟩]) rfl rfl rfl rfl rfl (sl_run rfl) rfl rfl hO rfl (src_own H 0 rfl) rfl (by omega) (by unfold maxLen; omega) H (List.Perm.refl _) ?_
        clear H hO; intro A3 cap3 Lo3 w hO H
        replace H := H.drop (L' := [⟨g5, 54, (bl2.set i (Q2[k] : Nat)).map I⟩, ⟨g4, 54, (List.replicate 16 0).map I⟩, ⟨g2, 56, ms.map I⟩] ++ Lo3) (List.sublist_cons_self _ _)
        refine OPS.val rfl rfl rfl (Ev.asS rfl) ?_
        refine OPS.nil ?_
        refine WP.region ?_
        refine OPS.val rfl rfl rfl (Ev.mvI rfl) ?_
        refine OPS.val rfl rfl rfl (Ev.add rfl rfl (by unfold fits; omega)) ?_
        refine OPS.val rfl rfl rfl (Ev.asI rfl) ?_
        refine OPS.nil ?_
        first | exact ⟨(by repeat (first | exact Agree.refl _ _ | exact Agree.mix _ _ _ | refine Agree.upd rfl ?_ | refine Agree.mix2 rfl ?_)), g3 - 1, by omega, i + 1, _, Q2 ++ [i], A3, cap3, Lo3, by omega, by simp; omega, by rw [List.length_append]; rfl, rfl, hW2, by simpa using hO, H⟩ | exact ⟨(by repeat (first | exact Agree.refl _ _ | exact Agree.mix _ _ _ | refine Agree.upd rfl ?_ | refine Agree.mix2 rfl ?_)), g3 - 1, by omega, i + 1, _, _, _, _, _, by omega, hkQ3, rfl, rfl, hW2, hO, H⟩
      have hW2 : WInv ms s bl2 Q2 k (i + 1) := hW.skip (by
        by_cases hx : bl2.getD i 0 < 0
        · rw [decide_eq_true hx, Bool.true_and, decide_eq_false_iff_not] at hc14
          exact .inr fun _ => by omega
        · exact .inl ((hW.iff i hi).1 (by omega)))
      refine WP.skip ?_
      refine WP.region ?_
      refine OPS.val rfl rfl rfl (Ev.mvI rfl) ?_
      refine OPS.val rfl rfl rfl (Ev.add rfl rfl (by unfold fits; omega)) ?_
      refine OPS.val rfl rfl rfl (Ev.asI rfl) ?_
      refine OPS.nil ?_
      first | exact ⟨(by repeat (first | exact Agree.refl _ _ | exact Agree.mix _ _ _ | refine Agree.upd rfl ?_ | refine Agree.mix2 rfl ?_)), g3 - 1, by omega, i + 1, _, Q2 ++ [i], A3, cap3, Lo3, by omega, by simp; omega, by rw [List.length_append]; rfl, rfl, hW2, by simpa using hO, H⟩ | exact ⟨(by repeat (first | exact Agree.refl _ _ | exact Agree.mix _ _ _ | refine Agree.upd rfl ?_ | refine Agree.mix2 rfl ?_)), g3 - 1, by omega, i + 1, _, _, _, _, _, by omega, hkQ3, rfl, rfl, hW2, hO, H⟩
    obtain rfl : i = 16 := by simp at hc12; omega
    refine WP.exit ?_
    refine XB.hit ?_
    refine WP.region ?_
    refine OPS.val rfl rfl rfl (Ev.mvI rfl) ?_
    refine OPS.val rfl rfl rfl (Ev.add rfl rfl (by unfold fits; omega)) ?_
    refine OPS.val rfl rfl rfl (Ev.asI rfl) ?_
    refine OPS.nil ?_
    exact ⟨(by repeat (first | exact Agree.refl _ _ | exact Agree.mix _ _ _ | refine Agree.upd rfl ?_ | refine Agree.mix2 rfl ?_)), g - 1, by omega, k + 1, bl2, Q2, A2, cap2, Lo2, by omega, by omega, rfl, rfl, hW.next, hO, H⟩
  obtain rfl : k = Q.length := by simp at hc9; omega
  have hb16 : (bl.map I).length = 16 := by rw [List.length_map, hW.len]
  refine WP.exit ?_
  refine XB.hit ?_
  refine WP.seq ?_
  refine WP.region ?_
  refine OPS.val rfl rfl rfl ((by first | exact Ev.loadO 0 H rfl (agg_run rfl) (size_run rfl) (by first | assumption | rfl) rfl | exact Ev.loadO 1 H rfl (agg_run rfl) (size_run rfl) (by first | assumption | rfl) rfl | exact Ev.loadO 2 H rfl (agg_run rfl) (size_run rfl) (by first | assumption | rfl) rfl | exact Ev.loadO 3 H rfl (agg_run rfl) (size_run rfl) (by first | assumption | rfl) rfl | exact Ev.loadO 4 H rfl (agg_run rfl) (size_run rfl) (by first | assumption | rfl) rfl | exact Ev.loadO 5 H rfl (agg_run rfl) (size_run rfl) (by first | assumption | rfl) rfl | exact Ev.loadO 6 H rfl (agg_run rfl) (size_run rfl) (by first | assumption | rfl) rfl | fail)) ?_
  refine OPS.store 1 _ rfl rfl rfl (size_run rfl) rfl (cA rfl) hb16 (by simp [List.all_eq_true, Value.oneCell']) H rfl (by rw [List.length_map, List.length_replicate]; omega) ?_
  clear H; intro w H
  replace H : SH w0 [] w ([⟨g5, 54, bl.map I⟩, ⟨g4, 54, bl.map I⟩, ⟨g2, 56, ms.map I⟩] ++ Lo) := by
    have := putL_whole (bl.map I) ((List.replicate 16 (0 : Int)).map I) [] (by rw [hb16, List.length_map]; exact List.length_replicate)
    rw [List.append_nil, List.append_nil] at this
    have H : SH w0 [] w ([_, ⟨g4, 54, putL ((List.replicate 16 (0 : Int)).map I) 0 (bl.map I)⟩, _] ++ Lo) := H
    rw [this] at H; exact H
  refine OPS.nil ?_
  refine WP.ret ⟨[_], ⟨(by first | exact resCellA 0 H rfl (agg_run rfl) (size_run rfl) (by first | assumption | rfl) rfl | exact resCellA 1 H rfl (agg_run rfl) (size_run rfl) (by first | assumption | rfl) rfl | exact resCellA 2 H rfl (agg_run rfl) (size_run rfl) (by first | assumption | rfl) rfl | exact resCellA 3 H rfl (agg_run rfl) (size_run rfl) (by first | assumption | rfl) rfl | exact resCellA 4 H rfl (agg_run rfl) (size_run rfl) (by first | assumption | rfl) rfl | exact resCellA 5 H rfl (agg_run rfl) (size_run rfl) (by first | assumption | rfl) rfl | exact resCellA 6 H rfl (agg_run rfl) (size_run rfl) (by first | assumption | rfl) rfl), trivial⟩, ?_⟩
  exact ⟨bl, rfl, hW.ret, H.below⟩
end Go.Proofs.Ytmkgfgnpgoegcaa
