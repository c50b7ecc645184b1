/-
  Walk: search.from.
-/
import Derived.Test.YtmkgfgnpgoegcaaT32
set_option linter.all false
namespace Go.Proofs.Ytmkgfgnpgoegcaa
open Go Go.W Go.RowKit

def sLv (gs gr gc gn c at_ : Nat) (hidA : Option Addr) (n cap R : Nat) (rows sums : List Int) (va : Nat) (seen : List Bool) : List Blk :=
  [⟨gs, 42, [I c, I at_, .slice hidA n cap, .slice (some ⟨gr, 0, none⟩) R R, .slice (some ⟨gc, 0, none⟩) c c, I va, .slice (some ⟨gn, 0, none⟩) 15 15]⟩, ⟨gr, 3, rows.map I⟩, ⟨gc, 3, sums.map I⟩, ⟨gn, 4, seen.map Bo⟩]
theorem zF_set {l : List Int} {i : Nat} {v : Int} (hi : i < l.length) : zF (l.set i v) = updF (zF l) i v := by
  funext k
  simp only [zF, updF, List.getD_eq_getElem?_getD, List.getElem?_set]
  by_cases h : i = k
  · subst h; simp [hi]
  · rw [if_neg h, if_neg (fun e => h e.symm)]
theorem Seen.val {c n k at_ : Nat} {h : Nat → Bool} {rows sums : Nat → Int} {val val' x : Int} (hc : (decide (k ≤ at_) && h at_) = true) : Seen c n k h rows sums at_ val x ↔ Seen c n k h rows sums at_ val' x := by
  unfold Seen; rw [hc]; simp
structure FromOk (c n at_ R k : Nat) (h : Nat → Bool) (rows sums : List Int) (va : Nat) (seen : List Bool) : Prop where
  rl : rows.length = R
  sl : sums.length = c
  nl : seen.length = 15
  v15 : va < 15
  inv : SInv c n k h (zF rows) (zF sums)
  rb : ∀ r, zF rows r ≤ 14
  sb : ∀ d, zF sums d ≤ 14
def lowV (b1 b2 : Bool) (rr cc : Int) : Int := if b2 = true then (if (if b1 = true then rr else 0) < cc then cc else (if b1 = true then rr else 0)) else (if b1 = true then rr else 0)
theorem vok_iff {c n k : Nat} {h : Nat → Bool} {rows sums : Nat → Int} {b1 b2 : Bool} {v : Int} (h1 : b1 = true ↔ lastB n k h (rowS c (k / c))) (h2 : b2 = true ↔ lastB n k h (colS c (k % c))) (hr : 0 ≤ rows (k / c)) (hc : 0 ≤ sums (k % c)) :
    VOk c n k h rows sums v ↔ lowV b1 b2 (rows (k / c)) (sums (k % c)) ≤ v ∧ v ≤ (if sums (k % c) < rows (k / c) then sums (k % c) else rows (k / c)) := by
  unfold lowV
  constructor
  · rintro ⟨a0, a1, a2, a3, a4⟩
    rw [← h1] at a3
    rw [← h2] at a4
    cases b1 <;> cases b2 <;> simp at a3 a4 ⊢ <;> (repeat' split) <;> omega
  · rintro ⟨a, b⟩
    have b1' : v ≤ rows (k / c) ∧ v ≤ sums (k % c) := by revert b; split <;> intro b <;> omega
    refine ⟨?_, b1'.1, b1'.2, fun hh => ?_, fun hh => ?_⟩
    · revert a; cases b1 <;> cases b2 <;> simp <;> (repeat' split) <;> omega
    · rw [h1.2 hh] at a; revert a; cases b2 <;> simp <;> (repeat' split) <;> omega
    · rw [h2.2 hh] at a; revert a; cases b1 <;> simp <;> (repeat' split) <;> omega

set_option maxHeartbeats 4000000 in
set_option maxRecDepth 20000 in
theorem lawFrom (gs gr gc gn c at_ R : Nat) (hidA : Option Addr) (hid : List Bool) (cap : Nat) (hc1 : 1 ≤ c) (hcu : c ≤ 8) (hR8 : R ≤ 8) (hn : hid.length = R * c) (hat : at_ < hid.length) (hoff : Off hidA [gs, gr, gc, gn]) : ∀ (m k : Nat) (rows sums : List Int) (va : Nat) (seen : List Bool) (w0 : World), hid.length + 1 ≤ k + m → k ≤ hid.length →
    FromOk c hid.length at_ R k (hF hid) rows sums va seen → BoolsAt w0 hidA hid → SH w0 [gs, gr, gc, gn] w0 (sLv gs gr gc gn c at_ hidA hid.length cap R rows sums va seen) →
    Calls Try.prog 20 #[.pointer (some ⟨gs, 0, none⟩), I k] w0
      fun e w' => e = .returned (.tuple #[]) ∧ ∃ (va' : Nat) (seen' : List Bool), SH w0 [gs, gr, gc, gn] w' (sLv gs gr gc gn c at_ hidA hid.length cap R rows sums va' seen') ∧ seen'.length = 15 ∧ va' < 15 ∧ ((decide (k ≤ at_) && hF hid at_) = false → va' = va) ∧
        ∀ x : Nat, x < 15 → (seen'.getD x false = true ↔ (seen.getD x false = true ∨ Seen c hid.length k (hF hid) (zF rows) (zF sums) at_ va x)) := by
  intro m
  induction m with
  | zero => intro k rows sums va seen w0 h1 h2; omega
  | succ m ih =>
    intro k rows sums va seen w0 hkm hkn hok hb H
    have h64 : hid.length ≤ 64 := by
      rw [hn]
      have := Nat.mul_le_mul hR8 hcu
      omega
    obtain ⟨rl, sl, nl, v15, inv, rb, sb⟩ := hok
    refine Calls.ofWP Try.func20 rfl Try.results20 Try.ntmps20 rfl ?_
    refine WP.seq ?_
    refine WP.block ?_
    refine WP.loop [1, 9, 10, 11, 12, 13, 14, 15, 16, 17, 18, 19, 20, 21, 22, 23, 24, 25, 26, 27] (fun g e w' => ∃ q : Nat, q + g = hid.length ∧ k ≤ q ∧ e 1 = I q ∧ SInv c hid.length q (hF hid) (zF rows) (zF sums) ∧ (∀ val x, Seen c hid.length k (hF hid) (zF rows) (zF sums) at_ val x ↔ Seen c hid.length q (hF hid) (zF rows) (zF sums) at_ val x) ∧ (decide (k ≤ at_) && hF hid at_) = (decide (q ≤ at_) && hF hid at_) ∧ SH w0 [gs, gr, gc, gn] w' (sLv gs gr gc gn c at_ hidA hid.length cap R rows sums va seen)) (hid.length - k) (⟨k, by omega, by omega, rfl, inv, fun _ _ => Iff.rfl, rfl, H⟩) ?_
    clear H
    rintro g u w ⟨q, hg, hkq, h1, hinv, hseen, hatq, H⟩
    refine WP.know (t := 1) h1 ?_
    unfold sLv at H
    refine WP.seq ?_
    refine WP.seq ?_
    refine WP.region ?_
    obtain ⟨bh, oh, hbh⟩ : ∃ bh oh, q < hid.length → hidA = some ⟨bh, oh, none⟩ ∧ w.cell? ⟨bh, oh + q, none⟩ = some (Bo (hid.getD q false)) := by
      by_cases hq : q < hid.length
      · obtain ⟨b, o, h2, h3⟩ := (hb.shS hoff H) q hq
        exact ⟨b, o, fun _ => ⟨h2, by simpa [hq] using h3⟩⟩
      · exact ⟨0, 0, fun h2 => absurd h2 hq⟩
    refine OPS.val rfl rfl rfl (Ev.mvI rfl) ?_
    refine OPS.val rfl rfl rfl (Ev.mvP rfl) ?_
    refine OPS.val rfl rfl rfl ((by first | exact Ev.nilCheckP rfl | exact Ev.nilCheckF rfl)) ?_
    refine OPS.val rfl rfl rfl (Ev.fieldAddr (fld_run rfl) rfl) ?_
    refine OPS.val rfl rfl rfl (Ev.load1 (agg_run rfl) rfl (by first | exact H.ldL 0 rfl _ rfl | exact H.ldL 1 rfl _ rfl | exact H.ldL 2 rfl _ rfl | exact H.ldL 3 rfl _ rfl | exact H.ldL 4 rfl _ rfl | exact H.ldL 5 rfl _ rfl | exact H.ldL 6 rfl _ rfl | exact H.ldL 7 rfl _ rfl | exact H.ld0 (by assumption) | assumption | exact H.ldS (by assumption) (by assumption))) ?_
    refine OPS.val rfl rfl rfl (Ev.len (el_run rfl) rfl) ?_
    refine OPS.val rfl rfl rfl (Ev.lss rfl rfl) ?_
    refine OPS.val rfl rfl rfl (Ev.mvB rfl) ?_
    refine OPS.gval rfl rfl rfl rfl rfl (fun hg => Ev.mvP (by first | rfl | exact gvE hg rfl)) ?_
    refine OPS.gval rfl rfl rfl rfl rfl (fun hg => (by first | exact Ev.nilCheckP (by first | rfl | exact gvE hg rfl) | exact Ev.nilCheckF (by first | rfl | exact gvE hg rfl))) ?_
    refine OPS.gval rfl rfl rfl rfl rfl (fun hg => Ev.fieldAddr (fld_run rfl) (by first | rfl | exact gvE hg rfl)) ?_
    refine OPS.gval rfl rfl rfl rfl rfl (fun hg => Ev.load1 (agg_run rfl) (by first | rfl | exact gvE hg rfl) (by first | exact H.ldL 0 rfl _ rfl | exact H.ldL 1 rfl _ rfl | exact H.ldL 2 rfl _ rfl | exact H.ldL 3 rfl _ rfl | exact H.ldL 4 rfl _ rfl | exact H.ldL 5 rfl _ rfl | exact H.ldL 6 rfl _ rfl | exact H.ldL 7 rfl _ rfl | exact H.ld0 (by assumption) | assumption | exact H.ldS (by assumption) (by assumption))) ?_
    refine OPS.gval rfl rfl rfl rfl rfl (fun hg => Ev.mvI (by first | rfl | exact gvE hg rfl)) ?_
    refine OPS.gval rfl rfl rfl rfl rfl (fun hg => Ev.indexAddr1 (b := bh) (o := oh) (j := q) (el_run rfl) (size_run rfl) ((gvE hg rfl).trans (by rw [(hbh (by simpa using hg)).1])) (gvE hg rfl) rfl (by simpa using hg)) ?_
    refine OPS.gval rfl rfl rfl rfl rfl (fun hg => Ev.load1 (agg_run rfl) (gvE hg rfl) (hbh (by simpa using hg)).2) ?_
    refine OPS.gval rfl rfl rfl rfl rfl (fun hg => Ev.not (by first | rfl | exact gvE hg rfl)) ?_
    refine OPS.val rfl rfl rfl ((by first | exact Ev.pickOr rfl rfl rfl | exact Ev.pickAnd rfl rfl rfl)) ?_
    refine OPS.nil ?_
    refine WP.cond rfl (fun hc0 => ?_) (fun hc0 => ?_)
    · refine WP.skip ?_
      refine WP.block ?_
      refine WP.region ?_
      refine OPS.val rfl rfl rfl (Ev.mvI rfl) ?_
      refine OPS.val rfl rfl rfl (Ev.add rfl rfl (by unfold fits; omega)) ?_
      refine OPS.val rfl rfl rfl (Ev.asI rfl) ?_
      refine OPS.nil ?_
      simp only [Bool.and_eq_true, decide_eq_true_iff, Bool.not_eq_true'] at hc0
      obtain ⟨q1, q2⟩ := hc0
      have q1 : q < hid.length := by omega
      have q2 : hF hid q = false := q2
      exact ⟨(by repeat (first | exact Agree.refl _ _ | exact Agree.mix _ _ _ | refine Agree.upd rfl ?_ | refine Agree.mix2 rfl ?_)), g - 1, by omega, q + 1, by omega, by omega, rfl, hinv.skip q2, fun val x => (hseen val x).trans (Seen.skip q2), hatq.trans (at_skip q2), H⟩
    refine WP.exit ?_
    refine XB.hit ?_
    refine WP.seq ?_
    refine WP.seq ?_
    refine WP.region ?_
    refine OPS.val rfl rfl rfl (Ev.mvI rfl) ?_
    refine OPS.val rfl rfl rfl (Ev.mvP rfl) ?_
    refine OPS.val rfl rfl rfl ((by first | exact Ev.nilCheckP rfl | exact Ev.nilCheckF rfl)) ?_
    refine OPS.val rfl rfl rfl (Ev.fieldAddr (fld_run rfl) rfl) ?_
    refine OPS.val rfl rfl rfl (Ev.load1 (agg_run rfl) rfl (by first | exact H.ldL 0 rfl _ rfl | exact H.ldL 1 rfl _ rfl | exact H.ldL 2 rfl _ rfl | exact H.ldL 3 rfl _ rfl | exact H.ldL 4 rfl _ rfl | exact H.ldL 5 rfl _ rfl | exact H.ldL 6 rfl _ rfl | exact H.ldL 7 rfl _ rfl | exact H.ld0 (by assumption) | assumption | exact H.ldS (by assumption) (by assumption))) ?_
    refine OPS.val rfl rfl rfl (Ev.len (el_run rfl) rfl) ?_
    refine OPS.val rfl rfl rfl (Ev.geq rfl rfl) ?_
    refine OPS.nil ?_
    refine WP.cond rfl (fun hc2 => ?_) (fun hc2 => ?_)
    · refine WP.seq ?_
      refine WP.rtail 9 mixed (by kernel_rfl) H ?_
      clear H; intro w hbw3 H
      refine OPS.val rfl rfl rfl (Ev.mvP rfl) ?_
      refine OPS.val rfl rfl rfl ((by first | exact Ev.nilCheckP rfl | exact Ev.nilCheckF rfl)) ?_
      refine OPS.val rfl rfl rfl (Ev.fieldAddr (fld_run rfl) rfl) ?_
      refine OPS.val rfl rfl rfl (Ev.load1 (agg_run rfl) rfl (by first | exact H.ldL 0 rfl _ rfl | exact H.ldL 1 rfl _ rfl | exact H.ldL 2 rfl _ rfl | exact H.ldL 3 rfl _ rfl | exact H.ldL 4 rfl _ rfl | exact H.ldL 5 rfl _ rfl | exact H.ldL 6 rfl _ rfl | exact H.ldL 7 rfl _ rfl | exact H.ld0 (by assumption) | assumption | exact H.ldS (by assumption) (by assumption))) ?_
      refine OPS.val rfl rfl rfl (Ev.mvP rfl) ?_
      refine OPS.val rfl rfl rfl ((by first | exact Ev.nilCheckP rfl | exact Ev.nilCheckF rfl)) ?_
      refine OPS.val rfl rfl rfl (Ev.fieldAddr (fld_run rfl) rfl) ?_
      refine OPS.val rfl rfl rfl (Ev.load1 (agg_run rfl) rfl (by first | exact H.ldL 0 rfl _ rfl | exact H.ldL 1 rfl _ rfl | exact H.ldL 2 rfl _ rfl | exact H.ldL 3 rfl _ rfl | exact H.ldL 4 rfl _ rfl | exact H.ldL 5 rfl _ rfl | exact H.ldL 6 rfl _ rfl | exact H.ldL 7 rfl _ rfl | exact H.ld0 (by assumption) | assumption | exact H.ldS (by assumption) (by assumption))) ?_
      refine OPS.val rfl rfl rfl ((by first | exact Ev.indexAddr1 (el_run rfl) (size_run rfl) rfl rfl rfl (by omega) | exact Ev.indexAddr (el_run rfl) (size_run rfl) rfl rfl rfl (by omega))) ?_
      refine OPS.nil_s ?_
      refine OPS.store 3 _ rfl rfl rfl (size_run rfl) rfl (cB rfl) rfl rfl H rfl (by rw [List.length_map]; omega) ?_
      clear H; intro w H
      replace H : SH w0 [gs, gr, gc, gn] w [⟨gs, 42, [I c, I at_, .slice hidA hid.length cap, .slice (some ⟨gr, 0, none⟩) R R, .slice (some ⟨gc, 0, none⟩) c c, I va, .slice (some ⟨gn, 0, none⟩) 15 15]⟩, ⟨gr, 3, rows.map I⟩, ⟨gc, 3, sums.map I⟩, ⟨gn, 4, (seen.set va true).map Bo⟩] := by
        rw [← putL_ones]
        have H : SH w0 [gs, gr, gc, gn] w [_, _, _, ⟨gn, 4, putL (seen.map Bo) (0 + va) [Bo true]⟩] := H
        rw [Nat.zero_add] at H; exact H
      refine OPS.nil ?_
      refine WP.ret ⟨_, rfl, ?_⟩
      have hq : hid.length ≤ q := by simp at hc2; omega
      refine ⟨rfl, va, seen.set va true, H, by simpa using nl, v15, fun _ => rfl, fun x hx => ?_⟩
      rw [hseen, Seen.fin hinv hq hat]
      simp only [List.getD_eq_getElem?_getD, List.getElem?_set]
      by_cases e : va = x
      · subst e; simp [nl, v15]
      · rw [if_neg e]
        constructor
        · exact fun h => .inl h
        · rintro (h | h)
          · exact h
          · omega
    have hq : q < hid.length := by simp at hc2; omega
    have hhq : hF hid q = true := by
      rw [decide_eq_true (show (q : Int) < hid.length by omega), Bool.true_and] at hc0
      simpa [hF] using hc0
    obtain ⟨hqr, hqc⟩ : q / c < R ∧ q % c < c := ⟨by rw [Nat.div_lt_iff_lt_mul (by omega)]; omega, Nat.mod_lt _ (by omega)⟩
    have hm1 : (q : Int) / c = (q / c : Nat) ∧ (q : Int) % c = (q % c : Nat) := ⟨by simp, by simp⟩
    refine WP.skip ?_
    refine WP.seq ?_
    refine WP.rstill mixed (by kernel_rfl) H ?_
    clear H; intro w hbw4 H
    refine OPS.val rfl rfl rfl (Ev.mvI rfl) ?_
    refine OPS.val rfl rfl rfl (Ev.mvP rfl) ?_
    refine OPS.val rfl rfl rfl ((by first | exact Ev.nilCheckP rfl | exact Ev.nilCheckF rfl)) ?_
    refine OPS.val rfl rfl rfl (Ev.fieldAddr (fld_run rfl) rfl) ?_
    refine OPS.val rfl rfl rfl (Ev.load1 (agg_run rfl) rfl (by first | exact H.ldL 0 rfl _ rfl | exact H.ldL 1 rfl _ rfl | exact H.ldL 2 rfl _ rfl | exact H.ldL 3 rfl _ rfl | exact H.ldL 4 rfl _ rfl | exact H.ldL 5 rfl _ rfl | exact H.ldL 6 rfl _ rfl | exact H.ldL 7 rfl _ rfl | exact H.ld0 (by assumption) | assumption | exact H.ldS (by assumption) (by assumption))) ?_
    refine OPS.val rfl rfl rfl (Ev.quo rfl rfl (by omega) (by omega) (by omega)) ?_
    refine OPS.val rfl rfl rfl (Ev.mvI rfl) ?_
    refine OPS.val rfl rfl rfl (Ev.mvP rfl) ?_
    refine OPS.val rfl rfl rfl ((by first | exact Ev.nilCheckP rfl | exact Ev.nilCheckF rfl)) ?_
    refine OPS.val rfl rfl rfl (Ev.fieldAddr (fld_run rfl) rfl) ?_
    refine OPS.val rfl rfl rfl (Ev.load1 (agg_run rfl) rfl (by first | exact H.ldL 0 rfl _ rfl | exact H.ldL 1 rfl _ rfl | exact H.ldL 2 rfl _ rfl | exact H.ldL 3 rfl _ rfl | exact H.ldL 4 rfl _ rfl | exact H.ldL 5 rfl _ rfl | exact H.ldL 6 rfl _ rfl | exact H.ldL 7 rfl _ rfl | exact H.ld0 (by assumption) | assumption | exact H.ldS (by assumption) (by assumption))) ?_
    refine OPS.val rfl rfl rfl (Ev.rem rfl rfl (by omega) (by omega)) ?_
    refine OPS.val rfl rfl rfl (Ev.asI rfl) ?_
    refine OPS.val rfl rfl rfl (Ev.asI rfl) ?_
    refine OPS.nil_s ?_
    refine WP.know (t := 4) (v := I ((q / c : Nat) : Int)) (show I ((q : Int) / c) = _ by rw [hm1.1]) ?_
    refine WP.know (t := 5) (v := I ((q % c : Nat) : Int)) (show I ((q : Int) % c) = _ by rw [hm1.2]) ?_
    generalize hri : q / c = ri at hqr
    generalize hdi : q % c = di at hqc
    have hrv : zF rows ri = rows.getD ri 0 := rfl
    have hsv : zF sums di = sums.getD di 0 := rfl
    have hr0 := hinv.rpos ri
    have hs0 := hinv.cpos di
    have hr14 := rb ri
    have hs14 := sb di
    refine WP.seq ?_
    refine WP.rstill mixed (by kernel_rfl) H ?_
    clear H; intro w hbw5 H
    have crow : w.cell? ⟨gr, 0 + ri, none⟩ = some (I (zF rows ri)) := by rw [Nat.zero_add]; exact intCell H 1 rfl ri (by omega)
    have csum : w.cell? ⟨gc, 0 + di, none⟩ = some (I (zF sums di)) := by rw [Nat.zero_add]; exact intCell H 2 rfl di (by omega)
    refine OPS.val rfl rfl rfl (Ev.mvP rfl) ?_
    refine OPS.val rfl rfl rfl ((by first | exact Ev.nilCheckP rfl | exact Ev.nilCheckF rfl)) ?_
    refine OPS.val rfl rfl rfl (Ev.fieldAddr (fld_run rfl) rfl) ?_
    refine OPS.val rfl rfl rfl (Ev.load1 (agg_run rfl) rfl (by first | exact H.ldL 0 rfl _ rfl | exact H.ldL 1 rfl _ rfl | exact H.ldL 2 rfl _ rfl | exact H.ldL 3 rfl _ rfl | exact H.ldL 4 rfl _ rfl | exact H.ldL 5 rfl _ rfl | exact H.ldL 6 rfl _ rfl | exact H.ldL 7 rfl _ rfl | exact H.ld0 (by assumption) | assumption | exact H.ldS (by assumption) (by assumption))) ?_
    refine OPS.val rfl rfl rfl (Ev.mvI rfl) ?_
    refine OPS.val rfl rfl rfl ((by first | exact Ev.indexAddr1 (el_run rfl) (size_run rfl) rfl rfl rfl (by omega) | exact Ev.indexAddr (el_run rfl) (size_run rfl) rfl rfl rfl (by omega))) ?_
    refine OPS.val rfl rfl rfl (Ev.load1 (agg_run rfl) rfl (by first | exact H.ldL 0 rfl _ rfl | exact H.ldL 1 rfl _ rfl | exact H.ldL 2 rfl _ rfl | exact H.ldL 3 rfl _ rfl | exact H.ldL 4 rfl _ rfl | exact H.ldL 5 rfl _ rfl | exact H.ldL 6 rfl _ rfl | exact H.ldL 7 rfl _ rfl | exact H.ld0 (by assumption) | assumption | exact H.ldS (by assumption) (by assumption))) ?_
    refine OPS.val rfl rfl rfl (Ev.mvP rfl) ?_
    refine OPS.val rfl rfl rfl ((by first | exact Ev.nilCheckP rfl | exact Ev.nilCheckF rfl)) ?_
    refine OPS.val rfl rfl rfl (Ev.fieldAddr (fld_run rfl) rfl) ?_
    refine OPS.val rfl rfl rfl (Ev.load1 (agg_run rfl) rfl (by first | exact H.ldL 0 rfl _ rfl | exact H.ldL 1 rfl _ rfl | exact H.ldL 2 rfl _ rfl | exact H.ldL 3 rfl _ rfl | exact H.ldL 4 rfl _ rfl | exact H.ldL 5 rfl _ rfl | exact H.ldL 6 rfl _ rfl | exact H.ldL 7 rfl _ rfl | exact H.ld0 (by assumption) | assumption | exact H.ldS (by assumption) (by assumption))) ?_
    refine OPS.val rfl rfl rfl (Ev.mvI rfl) ?_
    refine OPS.val rfl rfl rfl ((by first | exact Ev.indexAddr1 (el_run rfl) (size_run rfl) rfl rfl rfl (by omega) | exact Ev.indexAddr (el_run rfl) (size_run rfl) rfl rfl rfl (by omega))) ?_
    refine OPS.val rfl rfl rfl (Ev.load1 (agg_run rfl) rfl (by first | exact H.ldL 0 rfl _ rfl | exact H.ldL 1 rfl _ rfl | exact H.ldL 2 rfl _ rfl | exact H.ldL 3 rfl _ rfl | exact H.ldL 4 rfl _ rfl | exact H.ldL 5 rfl _ rfl | exact H.ldL 6 rfl _ rfl | exact H.ldL 7 rfl _ rfl | exact H.ld0 (by assumption) | assumption | exact H.ldS (by assumption) (by assumption))) ?_
    refine OPS.val rfl rfl rfl (Ev.min rfl rfl) ?_
    refine OPS.val rfl rfl rfl (Ev.asI rfl) ?_
    refine OPS.val rfl rfl rfl (Ev.asI rfl) ?_
    refine OPS.nil_s ?_
    refine WP.seq ?_
    refine WP.seq ?_
    refine WP.region ?_
    refine OPS.val rfl rfl rfl (Ev.mvP rfl) ?_
    refine OPS.val rfl rfl rfl (Ev.mvI rfl) ?_
    refine OPS.call (d := some 73) rfl rfl rfl (EvC.func (fun_run rfl)) (lawLast gs q c true hidA hid cap w hc1 hcu hq h64 (H.ldL 0 rfl 0 rfl) (H.ldL 0 rfl 2 rfl) (hb.shS hoff H)) ?_
    rintro _ w ⟨b1, rfl, hb1, Hc⟩
    refine ⟨_, rfl, ?_⟩
    replace H := H.toBelow Hc
    clear Hc
    rw [if_pos rfl] at hb1
    refine OPS.nil ?_
    refine WP.cut [6, 74, 75, 76, 77, 78, 79, 80] (fun u w' => u 6 = I (if b1 = true then zF rows ri else 0) ∧ SH w0 [gs, gr, gc, gn] w' [⟨gs, 42, [I c, I at_, .slice hidA hid.length cap, .slice (some ⟨gr, 0, none⟩) R R, .slice (some ⟨gc, 0, none⟩) c c, I va, .slice (some ⟨gn, 0, none⟩) 15 15]⟩, ⟨gr, 3, rows.map I⟩, ⟨gc, 3, sums.map I⟩, ⟨gn, 4, seen.map Bo⟩]) ?_ ?_
    · refine WP.cond rfl (fun hc6 => ?_) (fun hc6 => ?_)
      · have crow : w.cell? ⟨gr, 0 + ri, none⟩ = some (I (zF rows ri)) := by rw [Nat.zero_add]; exact intCell H 1 rfl ri (by omega)
        refine WP.region ?_
        refine OPS.val rfl rfl rfl (Ev.mvP rfl) ?_
        refine OPS.val rfl rfl rfl ((by first | exact Ev.nilCheckP rfl | exact Ev.nilCheckF rfl)) ?_
        refine OPS.val rfl rfl rfl (Ev.fieldAddr (fld_run rfl) rfl) ?_
        refine OPS.val rfl rfl rfl (Ev.load1 (agg_run rfl) rfl (by first | exact H.ldL 0 rfl _ rfl | exact H.ldL 1 rfl _ rfl | exact H.ldL 2 rfl _ rfl | exact H.ldL 3 rfl _ rfl | exact H.ldL 4 rfl _ rfl | exact H.ldL 5 rfl _ rfl | exact H.ldL 6 rfl _ rfl | exact H.ldL 7 rfl _ rfl | exact H.ld0 (by assumption) | assumption | exact H.ldS (by assumption) (by assumption))) ?_
        refine OPS.val rfl rfl rfl (Ev.mvI rfl) ?_
        refine OPS.val rfl rfl rfl ((by first | exact Ev.indexAddr1 (el_run rfl) (size_run rfl) rfl rfl rfl (by omega) | exact Ev.indexAddr (el_run rfl) (size_run rfl) rfl rfl rfl (by omega))) ?_
        refine OPS.val rfl rfl rfl (Ev.load1 (agg_run rfl) rfl (by first | exact H.ldL 0 rfl _ rfl | exact H.ldL 1 rfl _ rfl | exact H.ldL 2 rfl _ rfl | exact H.ldL 3 rfl _ rfl | exact H.ldL 4 rfl _ rfl | exact H.ldL 5 rfl _ rfl | exact H.ldL 6 rfl _ rfl | exact H.ldL 7 rfl _ rfl | exact H.ld0 (by assumption) | assumption | exact H.ldS (by assumption) (by assumption))) ?_
        refine OPS.val rfl rfl rfl (Ev.asI rfl) ?_
        refine OPS.nil ?_
        subst hc6
        exact ⟨(by repeat (first | exact Agree.refl _ _ | exact Agree.mix _ _ _ | refine Agree.upd rfl ?_ | refine Agree.mix2 rfl ?_)), rfl, H⟩
      refine WP.skip ?_
      subst hc6
      exact ⟨(by repeat (first | exact Agree.refl _ _ | exact Agree.mix _ _ _ | refine Agree.upd rfl ?_ | refine Agree.mix2 rfl ?_)), rfl, H⟩
    intro u6 w hcut
    obtain ⟨h6, H⟩ := hcut
    refine WP.know (t := 6) h6 ?_
    refine WP.seq ?_
    refine WP.seq ?_
    refine WP.region ?_
    refine OPS.val rfl rfl rfl (Ev.mvP rfl) ?_
    refine OPS.val rfl rfl rfl (Ev.mvI rfl) ?_
    refine OPS.call (d := some 83) rfl rfl rfl (EvC.func (fun_run rfl)) (lawLast gs q c false hidA hid cap w hc1 hcu hq h64 (H.ldL 0 rfl 0 rfl) (H.ldL 0 rfl 2 rfl) (hb.shS hoff H)) ?_
    rintro _ w ⟨b2, rfl, hb2, Hc⟩
    refine ⟨_, rfl, ?_⟩
    replace H := H.toBelow Hc
    clear Hc
    rw [if_neg (by simp)] at hb2
    refine OPS.nil ?_
    refine WP.cut [6, 84, 85, 86, 87, 88, 89, 90, 91, 92] (fun u w' => u 6 = I (lowV b1 b2 (zF rows ri) (zF sums di)) ∧ SH w0 [gs, gr, gc, gn] w' [⟨gs, 42, [I c, I at_, .slice hidA hid.length cap, .slice (some ⟨gr, 0, none⟩) R R, .slice (some ⟨gc, 0, none⟩) c c, I va, .slice (some ⟨gn, 0, none⟩) 15 15]⟩, ⟨gr, 3, rows.map I⟩, ⟨gc, 3, sums.map I⟩, ⟨gn, 4, seen.map Bo⟩]) ?_ ?_
    · refine WP.cond rfl (fun hc8 => ?_) (fun hc8 => ?_)
      · have csum : w.cell? ⟨gc, 0 + di, none⟩ = some (I (zF sums di)) := by rw [Nat.zero_add]; exact intCell H 2 rfl di (by omega)
        refine WP.region ?_
        refine OPS.val rfl rfl rfl (Ev.mvI rfl) ?_
        refine OPS.val rfl rfl rfl (Ev.mvP rfl) ?_
        refine OPS.val rfl rfl rfl ((by first | exact Ev.nilCheckP rfl | exact Ev.nilCheckF rfl)) ?_
        refine OPS.val rfl rfl rfl (Ev.fieldAddr (fld_run rfl) rfl) ?_
        refine OPS.val rfl rfl rfl (Ev.load1 (agg_run rfl) rfl (by first | exact H.ldL 0 rfl _ rfl | exact H.ldL 1 rfl _ rfl | exact H.ldL 2 rfl _ rfl | exact H.ldL 3 rfl _ rfl | exact H.ldL 4 rfl _ rfl | exact H.ldL 5 rfl _ rfl | exact H.ldL 6 rfl _ rfl | exact H.ldL 7 rfl _ rfl | exact H.ld0 (by assumption) | assumption | exact H.ldS (by assumption) (by assumption))) ?_
        refine OPS.val rfl rfl rfl (Ev.mvI rfl) ?_
        refine OPS.val rfl rfl rfl ((by first | exact Ev.indexAddr1 (el_run rfl) (size_run rfl) rfl rfl rfl (by omega) | exact Ev.indexAddr (el_run rfl) (size_run rfl) rfl rfl rfl (by omega))) ?_
        refine OPS.val rfl rfl rfl (Ev.load1 (agg_run rfl) rfl (by first | exact H.ldL 0 rfl _ rfl | exact H.ldL 1 rfl _ rfl | exact H.ldL 2 rfl _ rfl | exact H.ldL 3 rfl _ rfl | exact H.ldL 4 rfl _ rfl | exact H.ldL 5 rfl _ rfl | exact H.ldL 6 rfl _ rfl | exact H.ldL 7 rfl _ rfl | exact H.ld0 (by assumption) | assumption | exact H.ldS (by assumption) (by assumption))) ?_
        refine OPS.val rfl rfl rfl (Ev.max rfl rfl) ?_
        refine OPS.val rfl rfl rfl (Ev.asI rfl) ?_
        refine OPS.nil ?_
        subst hc8
        exact ⟨(by repeat (first | exact Agree.refl _ _ | exact Agree.mix _ _ _ | refine Agree.upd rfl ?_ | refine Agree.mix2 rfl ?_)), rfl, H⟩
      refine WP.skip ?_
      subst hc8
      exact ⟨(by repeat (first | exact Agree.refl _ _ | exact Agree.mix _ _ _ | refine Agree.upd rfl ?_ | refine Agree.mix2 rfl ?_)), rfl, H⟩
    intro u7 w hcut
    obtain ⟨h6, H⟩ := hcut
    refine WP.know (t := 6) h6 ?_
    refine WP.seq ?_
    have hlow0 : 0 ≤ lowV b1 b2 (zF rows ri) (zF sums di) := by
      unfold lowV; cases b1 <;> cases b2 <;> simp <;> (repeat' split) <;> omega
    have hvok := fun v => vok_iff (v := v) hb1 hb2 (by rw [hri]; exact hr0) (by rw [hdi]; exact hs0)
    simp only [hri, hdi] at hvok
    generalize hlo : lowV b1 b2 (zF rows ri) (zF sums di) = lo at hlow0 hvok
    obtain ⟨ln, rfl⟩ := Int.eq_ofNat_of_zero_le hlow0
    have hhi0 : 0 ≤ (if zF sums di < zF rows ri then zF sums di else zF rows ri) ∧ (if zF sums di < zF rows ri then zF sums di else zF rows ri) ≤ zF rows ri ∧ (if zF sums di < zF rows ri then zF sums di else zF rows ri) ≤ zF sums di := by split <;> omega
    generalize hhi : (if zF sums di < zF rows ri then zF sums di else zF rows ri) = hi at hhi0 hvok
    refine WP.region ?_
    refine OPS.val rfl rfl rfl (Ev.mvI rfl) ?_
    refine OPS.val rfl rfl rfl (Ev.asI rfl) ?_
    refine OPS.nil ?_
    refine WP.block ?_
    refine WP.loop [8, 94, 95, 96, 97, 98, 99, 100, 101, 102, 103, 104, 105, 106, 107, 108, 109, 110, 111, 112, 113, 114, 115, 116, 117, 118, 119, 120, 121, 122, 123, 124, 125, 126, 127, 128, 129, 130, 131, 132, 133, 134, 135, 136, 137, 138, 139, 140, 141, 142, 143, 144, 145, 146, 147, 148, 149, 150, 151, 152, 153, 154, 155, 156, 157, 158, 159, 160, 161, 162, 163, 164, 165, 166, 167, 168, 169, 170, 171, 172] (fun g e w' => ∃ (v va1 : Nat) (seen1 : List Bool), ln ≤ v ∧ g = (hi + 1 - v).toNat ∧ e 8 = I v ∧ va1 < 15 ∧ seen1.length = 15 ∧ ((decide (k ≤ at_) && hF hid at_) = false → va1 = va) ∧ (∀ x : Nat, x < 15 → (seen1.getD x false = true ↔ (seen.getD x false = true ∨ ∃ v' : Nat, ln ≤ v' ∧ v' < v ∧ (v' : Int) ≤ hi ∧ Seen c hid.length (q + 1) (hF hid) (updF (zF rows) ri (zF rows ri - v')) (updF (zF sums) di (zF sums di - v')) at_ (if q = at_ then (v' : Int) else va) x))) ∧ SH w0 [gs, gr, gc, gn] w' [⟨gs, 42, [I c, I at_, .slice hidA hid.length cap, .slice (some ⟨gr, 0, none⟩) R R, .slice (some ⟨gc, 0, none⟩) c c, I va1, .slice (some ⟨gn, 0, none⟩) 15 15]⟩, ⟨gr, 3, rows.map I⟩, ⟨gc, 3, sums.map I⟩, ⟨gn, 4, seen1.map Bo⟩]) ((hi + 1 - ln).toNat) (⟨ln, va, seen, Nat.le_refl _, rfl, rfl, v15, nl, fun _ => rfl, fun x hx => ⟨fun h => .inl h, fun h => by rcases h with h | ⟨v', a, b, _⟩; exact h; omega⟩, H⟩) ?_
    clear H
    rintro g2 u2 w ⟨v, va1, seen1, hlv, hg2, h8, v115, n1, hva1, hs1, H⟩
    refine WP.know (t := 8) h8 ?_
    refine WP.seq ?_
    refine WP.seq ?_
    refine WP.region ?_
    refine OPS.val rfl rfl rfl (Ev.mvI rfl) ?_
    refine OPS.val rfl rfl rfl (Ev.mvI rfl) ?_
    refine OPS.val rfl rfl rfl (Ev.leq rfl rfl) ?_
    refine OPS.nil ?_
    refine WP.cond rfl (fun hc11 => ?_) (fun hc11 => ?_)
    · have hvhi : (v : Int) ≤ hi := by subst hhi; simpa using hc11
      have hV : VOk c hid.length q (hF hid) (zF rows) (zF sums) v := (hvok v).2 ⟨by omega, hvhi⟩
      refine WP.skip ?_
      refine WP.seq ?_
      refine WP.block ?_
      refine WP.seq ?_
      refine WP.rtail 15 mixed (by kernel_rfl) H ?_
      clear H; intro w hbw13 H
      have crow : w.cell? ⟨gr, 0 + ri, none⟩ = some (I (zF rows ri)) := by rw [Nat.zero_add]; exact intCell H 1 rfl ri (by omega)
      refine OPS.val rfl rfl rfl (Ev.mvP rfl) ?_
      refine OPS.val rfl rfl rfl ((by first | exact Ev.nilCheckP rfl | exact Ev.nilCheckF rfl)) ?_
      refine OPS.val rfl rfl rfl (Ev.fieldAddr (fld_run rfl) rfl) ?_
      refine OPS.val rfl rfl rfl (Ev.load1 (agg_run rfl) rfl (by first | exact H.ldL 0 rfl _ rfl | exact H.ldL 1 rfl _ rfl | exact H.ldL 2 rfl _ rfl | exact H.ldL 3 rfl _ rfl | exact H.ldL 4 rfl _ rfl | exact H.ldL 5 rfl _ rfl | exact H.ldL 6 rfl _ rfl | exact H.ldL 7 rfl _ rfl | exact H.ld0 (by assumption) | assumption | exact H.ldS (by assumption) (by assumption))) ?_
      refine OPS.val rfl rfl rfl (Ev.mvI rfl) ?_
      refine OPS.val rfl rfl rfl (Ev.mvP rfl) ?_
      refine OPS.val rfl rfl rfl ((by first | exact Ev.nilCheckP rfl | exact Ev.nilCheckF rfl)) ?_
      refine OPS.val rfl rfl rfl (Ev.fieldAddr (fld_run rfl) rfl) ?_
      refine OPS.val rfl rfl rfl (Ev.load1 (agg_run rfl) rfl (by first | exact H.ldL 0 rfl _ rfl | exact H.ldL 1 rfl _ rfl | exact H.ldL 2 rfl _ rfl | exact H.ldL 3 rfl _ rfl | exact H.ldL 4 rfl _ rfl | exact H.ldL 5 rfl _ rfl | exact H.ldL 6 rfl _ rfl | exact H.ldL 7 rfl _ rfl | exact H.ld0 (by assumption) | assumption | exact H.ldS (by assumption) (by assumption))) ?_
      refine OPS.val rfl rfl rfl (Ev.mvI rfl) ?_
      refine OPS.val rfl rfl rfl ((by first | exact Ev.indexAddr1 (el_run rfl) (size_run rfl) rfl rfl rfl (by omega) | exact Ev.indexAddr (el_run rfl) (size_run rfl) rfl rfl rfl (by omega))) ?_
      refine OPS.val rfl rfl rfl (Ev.load1 (agg_run rfl) rfl (by first | exact H.ldL 0 rfl _ rfl | exact H.ldL 1 rfl _ rfl | exact H.ldL 2 rfl _ rfl | exact H.ldL 3 rfl _ rfl | exact H.ldL 4 rfl _ rfl | exact H.ldL 5 rfl _ rfl | exact H.ldL 6 rfl _ rfl | exact H.ldL 7 rfl _ rfl | exact H.ld0 (by assumption) | assumption | exact H.ldS (by assumption) (by assumption))) ?_
      refine OPS.val rfl rfl rfl (Ev.mvI rfl) ?_
      refine OPS.val rfl rfl rfl (Ev.sub rfl rfl (by unfold fits; omega)) ?_
      refine OPS.val rfl rfl rfl ((by first | exact Ev.indexAddr1 (el_run rfl) (size_run rfl) rfl rfl rfl (by omega) | exact Ev.indexAddr (el_run rfl) (size_run rfl) rfl rfl rfl (by omega))) ?_
      refine OPS.nil_s ?_
      refine OPS.store 1 _ rfl rfl rfl (size_run rfl) rfl (cI rfl) rfl rfl H rfl (by rw [List.length_map]; omega) ?_
      clear H crow; intro w H
      replace H : SH w0 [gs, gr, gc, gn] w [⟨gs, 42, [I c, I at_, .slice hidA hid.length cap, .slice (some ⟨gr, 0, none⟩) R R, .slice (some ⟨gc, 0, none⟩) c c, I va1, .slice (some ⟨gn, 0, none⟩) 15 15]⟩, ⟨gr, 3, (rows.set ri (zF rows ri - v)).map I⟩, ⟨gc, 3, sums.map I⟩, ⟨gn, 4, seen1.map Bo⟩] := by
        have H : SH w0 [gs, gr, gc, gn] w [_, ⟨gr, 3, putL (rows.map I) (0 + ri) [I (zF rows ri - v)]⟩, _, _] := H
        rw [Nat.zero_add, putL_ones] at H; exact H
      refine OPS.nil ?_
      refine WP.seq ?_
      refine WP.rtail 15 mixed (by kernel_rfl) H ?_
      clear H; intro w hbw14 H
      have csum : w.cell? ⟨gc, 0 + di, none⟩ = some (I (zF sums di)) := by rw [Nat.zero_add]; exact intCell H 2 rfl di (by omega)
      refine OPS.val rfl rfl rfl (Ev.mvP rfl) ?_
      refine OPS.val rfl rfl rfl ((by first | exact Ev.nilCheckP rfl | exact Ev.nilCheckF rfl)) ?_
      refine OPS.val rfl rfl rfl (Ev.fieldAddr (fld_run rfl) rfl) ?_
      refine OPS.val rfl rfl rfl (Ev.load1 (agg_run rfl) rfl (by first | exact H.ldL 0 rfl _ rfl | exact H.ldL 1 rfl _ rfl | exact H.ldL 2 rfl _ rfl | exact H.ldL 3 rfl _ rfl | exact H.ldL 4 rfl _ rfl | exact H.ldL 5 rfl _ rfl | exact H.ldL 6 rfl _ rfl | exact H.ldL 7 rfl _ rfl | exact H.ld0 (by assumption) | assumption | exact H.ldS (by assumption) (by assumption))) ?_
      refine OPS.val rfl rfl rfl (Ev.mvI rfl) ?_
      refine OPS.val rfl rfl rfl (Ev.mvP rfl) ?_
      refine OPS.val rfl rfl rfl ((by first | exact Ev.nilCheckP rfl | exact Ev.nilCheckF rfl)) ?_
      refine OPS.val rfl rfl rfl (Ev.fieldAddr (fld_run rfl) rfl) ?_
      refine OPS.val rfl rfl rfl (Ev.load1 (agg_run rfl) rfl (by first | exact H.ldL 0 rfl _ rfl | exact H.ldL 1 rfl _ rfl | exact H.ldL 2 rfl _ rfl | exact H.ldL 3 rfl _ rfl | exact H.ldL 4 rfl _ rfl | exact H.ldL 5 rfl _ rfl | exact H.ldL 6 rfl _ rfl | exact H.ldL 7 rfl _ rfl | exact H.ld0 (by assumption) | assumption | exact H.ldS (by assumption) (by assumption))) ?_
      refine OPS.val rfl rfl rfl (Ev.mvI rfl) ?_
      refine OPS.val rfl rfl rfl ((by first | exact Ev.indexAddr1 (el_run rfl) (size_run rfl) rfl rfl rfl (by omega) | exact Ev.indexAddr (el_run rfl) (size_run rfl) rfl rfl rfl (by omega))) ?_
      refine OPS.val rfl rfl rfl (Ev.load1 (agg_run rfl) rfl (by first | exact H.ldL 0 rfl _ rfl | exact H.ldL 1 rfl _ rfl | exact H.ldL 2 rfl _ rfl | exact H.ldL 3 rfl _ rfl | exact H.ldL 4 rfl _ rfl | exact H.ldL 5 rfl _ rfl | exact H.ldL 6 rfl _ rfl | exact H.ldL 7 rfl _ rfl | exact H.ld0 (by assumption) | assumption | exact H.ldS (by assumption) (by assumption))) ?_
      refine OPS.val rfl rfl rfl (Ev.mvI rfl) ?_
      refine OPS.val rfl rfl rfl (Ev.sub rfl rfl (by unfold fits; omega)) ?_
      refine OPS.val rfl rfl rfl ((by first | exact Ev.indexAddr1 (el_run rfl) (size_run rfl) rfl rfl rfl (by omega) | exact Ev.indexAddr (el_run rfl) (size_run rfl) rfl rfl rfl (by omega))) ?_
      refine OPS.nil_s ?_
      refine OPS.store 2 _ rfl rfl rfl (size_run rfl) rfl (cI rfl) rfl rfl H rfl (by rw [List.length_map]; omega) ?_
      clear H csum; intro w H
      replace H : SH w0 [gs, gr, gc, gn] w [⟨gs, 42, [I c, I at_, .slice hidA hid.length cap, .slice (some ⟨gr, 0, none⟩) R R, .slice (some ⟨gc, 0, none⟩) c c, I va1, .slice (some ⟨gn, 0, none⟩) 15 15]⟩, ⟨gr, 3, (rows.set ri (zF rows ri - v)).map I⟩, ⟨gc, 3, (sums.set di (zF sums di - v)).map I⟩, ⟨gn, 4, seen1.map Bo⟩] := by
        have H : SH w0 [gs, gr, gc, gn] w [_, _, ⟨gc, 3, putL (sums.map I) (0 + di) [I (zF sums di - v)]⟩, _] := H
        rw [Nat.zero_add, putL_ones] at H; exact H
      refine OPS.nil ?_
      refine WP.seq ?_
      refine WP.seq ?_
      refine WP.region ?_
      refine OPS.val rfl rfl rfl (Ev.mvI rfl) ?_
      refine OPS.val rfl rfl rfl (Ev.mvP rfl) ?_
      refine OPS.val rfl rfl rfl ((by first | exact Ev.nilCheckP rfl | exact Ev.nilCheckF rfl)) ?_
      refine OPS.val rfl rfl rfl (Ev.fieldAddr (fld_run rfl) rfl) ?_
      refine OPS.val rfl rfl rfl (Ev.load1 (agg_run rfl) rfl (by first | exact H.ldL 0 rfl _ rfl | exact H.ldL 1 rfl _ rfl | exact H.ldL 2 rfl _ rfl | exact H.ldL 3 rfl _ rfl | exact H.ldL 4 rfl _ rfl | exact H.ldL 5 rfl _ rfl | exact H.ldL 6 rfl _ rfl | exact H.ldL 7 rfl _ rfl | exact H.ld0 (by assumption) | assumption | exact H.ldS (by assumption) (by assumption))) ?_
      refine OPS.val rfl rfl rfl (Ev.eql rfl rfl) ?_
      refine OPS.nil ?_
      refine WP.cut [135, 136, 137, 138] (fun u w' => ∃ va2 : Nat, va2 < 15 ∧ va2 = (if q = at_ then v else va1) ∧ SH w0 [gs, gr, gc, gn] w' [⟨gs, 42, [I c, I at_, .slice hidA hid.length cap, .slice (some ⟨gr, 0, none⟩) R R, .slice (some ⟨gc, 0, none⟩) c c, I va2, .slice (some ⟨gn, 0, none⟩) 15 15]⟩, ⟨gr, 3, (rows.set ri (zF rows ri - v)).map I⟩, ⟨gc, 3, (sums.set di (zF sums di - v)).map I⟩, ⟨gn, 4, seen1.map Bo⟩]) ?_ ?_
      · refine WP.cond rfl (fun hc15 => ?_) (fun hc15 => ?_)
        · refine WP.region ?_
          refine OPS.val rfl rfl rfl (Ev.mvP rfl) ?_
          refine OPS.val rfl rfl rfl (Ev.mvI rfl) ?_
          refine OPS.val rfl rfl rfl ((by first | exact Ev.nilCheckP rfl | exact Ev.nilCheckF rfl)) ?_
          refine OPS.val rfl rfl rfl (Ev.fieldAddr (fld_run rfl) rfl) ?_
          first | refine OPS.store 0 _ rfl rfl rfl (size_run rfl) rfl (cI rfl) rfl rfl H rfl (by simp) ?_ | refine OPS.store 1 _ rfl rfl rfl (size_run rfl) rfl (cI rfl) rfl rfl H rfl (by simp) ?_ | refine OPS.store 2 _ rfl rfl rfl (size_run rfl) rfl (cI rfl) rfl rfl H rfl (by simp) ?_ | refine OPS.store 3 _ rfl rfl rfl (size_run rfl) rfl (cI rfl) rfl rfl H rfl (by simp) ?_ | refine OPS.store 4 _ rfl rfl rfl (size_run rfl) rfl (cI rfl) rfl rfl H rfl (by simp) ?_ | refine OPS.store 5 _ rfl rfl rfl (size_run rfl) rfl (cI rfl) rfl rfl H rfl (by simp) ?_ | refine OPS.store 6 _ rfl rfl rfl (size_run rfl) rfl (cI rfl) rfl rfl H rfl (by simp) ?_ | refine OPS.store 7 _ rfl rfl rfl (size_run rfl) rfl (cI rfl) rfl rfl H rfl (by simp) ?_ | refine OPS.store 8 _ rfl rfl rfl (size_run rfl) rfl (cI rfl) rfl rfl H rfl (by simp) ?_
          clear H; intro w H; simp only [List.set_cons_zero, List.set_cons_succ, putL, Nat.zero_add] at H
          refine OPS.nil ?_
          first
          | exact ⟨(by repeat (first | exact Agree.refl _ _ | exact Agree.mix _ _ _ | refine Agree.upd rfl ?_ | refine Agree.mix2 rfl ?_)), v, by omega, by rw [if_pos (by simp at hc15; omega)], H⟩
          | exact ⟨(by repeat (first | exact Agree.refl _ _ | exact Agree.mix _ _ _ | refine Agree.upd rfl ?_ | refine Agree.mix2 rfl ?_)), va1, v115, by rw [if_neg (by simp at hc15; omega)], H⟩
        refine WP.skip ?_
        first
        | exact ⟨(by repeat (first | exact Agree.refl _ _ | exact Agree.mix _ _ _ | refine Agree.upd rfl ?_ | refine Agree.mix2 rfl ?_)), v, by omega, by rw [if_pos (by simp at hc15; omega)], H⟩
        | exact ⟨(by repeat (first | exact Agree.refl _ _ | exact Agree.mix _ _ _ | refine Agree.upd rfl ?_ | refine Agree.mix2 rfl ?_)), va1, v115, by rw [if_neg (by simp at hc15; omega)], H⟩
      intro u9 w hcut
      obtain ⟨va2, v215, hva2, H⟩ := hcut
      refine WP.seq ?_
      refine WP.region ?_
      refine OPS.val rfl rfl rfl (Ev.mvP rfl) ?_
      refine OPS.val rfl rfl rfl (Ev.mvI rfl) ?_
      refine OPS.val rfl rfl rfl (Ev.add rfl rfl (by unfold fits; omega)) ?_
      have hz1 : zF (rows.set ri (zF rows ri - v)) = updF (zF rows) ri (zF rows ri - v) := zF_set (by omega)
      have hz2 : zF (sums.set di (zF sums di - v)) = updF (zF sums) di (zF sums di - v) := zF_set (by omega)
      have hok2 : FromOk c hid.length at_ R (q + 1) (hF hid) (rows.set ri (zF rows ri - v)) (sums.set di (zF sums di - v)) va2 seen1 := by
        refine ⟨by simpa using rl, by simpa using sl, n1, v215, ?_, fun r => ?_, fun d => ?_⟩
        · rw [hz1, hz2]
          have := hinv.step hq hV
          rw [hri, hdi] at this; exact this
        · rw [hz1]
          by_cases e : r = ri
          · subst e; rw [updF_same]; omega
          · rw [updF_other _ _ e]; exact rb r
        · rw [hz2]
          by_cases e : d = di
          · subst e; rw [updF_same]; omega
          · rw [updF_other _ _ e]; exact sb d
      have hI := ih (q + 1) (rows.set ri (zF rows ri - v)) (sums.set di (zF sums di - v)) va2 seen1 w (by omega) (by omega) hok2 (hb.shS hoff H) (H.restart (List.Sublist.refl _))
      refine OPS.call (d := some 142) rfl rfl rfl (EvC.func (fun_run rfl)) (hI) ?_
      rintro _ w ⟨rfl, va3, seen3, Hc, n3, v315, hva3, hs3⟩
      refine ⟨_, rfl, ?_⟩
      replace H := SH.call (L1 := []) (Lv := sLv gs gr gc gn c at_ hidA hid.length cap R (rows.set ri (zF rows ri - v)) (sums.set di (zF sums di - v)) va2 seen1) H Hc
      clear Hc hI hok2
      replace H : SH w0 [gs, gr, gc, gn] w [⟨gs, 42, [I c, I at_, .slice hidA hid.length cap, .slice (some ⟨gr, 0, none⟩) R R, .slice (some ⟨gc, 0, none⟩) c c, I va3, .slice (some ⟨gn, 0, none⟩) 15 15]⟩, ⟨gr, 3, (rows.set ri (zF rows ri - v)).map I⟩, ⟨gc, 3, (sums.set di (zF sums di - v)).map I⟩, ⟨gn, 4, seen3.map Bo⟩] := H
      rw [hz1, hz2] at hs3
      have g1 : (rows.set ri (zF rows ri - v)).getD ri 0 = zF rows ri - v := by simp [rl, hqr]
      have g2' : (sums.set di (zF sums di - v)).getD di 0 = zF sums di - v := by simp [sl, hqc]
      refine OPS.nil ?_
      refine WP.seq ?_
      refine WP.rtail 15 mixed (by kernel_rfl) H ?_
      clear H; intro w hbw18 H
      have crow : w.cell? ⟨gr, 0 + ri, none⟩ = some (I (zF rows ri - v)) := by rw [Nat.zero_add, ← g1]; exact intCell H 1 rfl ri (by simp; omega)
      refine OPS.val rfl rfl rfl (Ev.mvP rfl) ?_
      refine OPS.val rfl rfl rfl ((by first | exact Ev.nilCheckP rfl | exact Ev.nilCheckF rfl)) ?_
      refine OPS.val rfl rfl rfl (Ev.fieldAddr (fld_run rfl) rfl) ?_
      refine OPS.val rfl rfl rfl (Ev.load1 (agg_run rfl) rfl (by first | exact H.ldL 0 rfl _ rfl | exact H.ldL 1 rfl _ rfl | exact H.ldL 2 rfl _ rfl | exact H.ldL 3 rfl _ rfl | exact H.ldL 4 rfl _ rfl | exact H.ldL 5 rfl _ rfl | exact H.ldL 6 rfl _ rfl | exact H.ldL 7 rfl _ rfl | exact H.ld0 (by assumption) | assumption | exact H.ldS (by assumption) (by assumption))) ?_
      refine OPS.val rfl rfl rfl (Ev.mvI rfl) ?_
      refine OPS.val rfl rfl rfl (Ev.mvP rfl) ?_
      refine OPS.val rfl rfl rfl ((by first | exact Ev.nilCheckP rfl | exact Ev.nilCheckF rfl)) ?_
      refine OPS.val rfl rfl rfl (Ev.fieldAddr (fld_run rfl) rfl) ?_
      refine OPS.val rfl rfl rfl (Ev.load1 (agg_run rfl) rfl (by first | exact H.ldL 0 rfl _ rfl | exact H.ldL 1 rfl _ rfl | exact H.ldL 2 rfl _ rfl | exact H.ldL 3 rfl _ rfl | exact H.ldL 4 rfl _ rfl | exact H.ldL 5 rfl _ rfl | exact H.ldL 6 rfl _ rfl | exact H.ldL 7 rfl _ rfl | exact H.ld0 (by assumption) | assumption | exact H.ldS (by assumption) (by assumption))) ?_
      refine OPS.val rfl rfl rfl (Ev.mvI rfl) ?_
      refine OPS.val rfl rfl rfl ((by first | exact Ev.indexAddr1 (el_run rfl) (size_run rfl) rfl rfl rfl (by omega) | exact Ev.indexAddr (el_run rfl) (size_run rfl) rfl rfl rfl (by omega))) ?_
      refine OPS.val rfl rfl rfl (Ev.load1 (agg_run rfl) rfl (by first | exact H.ldL 0 rfl _ rfl | exact H.ldL 1 rfl _ rfl | exact H.ldL 2 rfl _ rfl | exact H.ldL 3 rfl _ rfl | exact H.ldL 4 rfl _ rfl | exact H.ldL 5 rfl _ rfl | exact H.ldL 6 rfl _ rfl | exact H.ldL 7 rfl _ rfl | exact H.ld0 (by assumption) | assumption | exact H.ldS (by assumption) (by assumption))) ?_
      refine OPS.val rfl rfl rfl (Ev.mvI rfl) ?_
      refine OPS.val rfl rfl rfl (Ev.add rfl rfl (by unfold fits; omega)) ?_
      refine OPS.val rfl rfl rfl ((by first | exact Ev.indexAddr1 (el_run rfl) (size_run rfl) rfl rfl rfl (by omega) | exact Ev.indexAddr (el_run rfl) (size_run rfl) rfl rfl rfl (by omega))) ?_
      refine OPS.nil_s ?_
      refine OPS.store 1 _ rfl rfl rfl (size_run rfl) rfl (cI rfl) rfl rfl H rfl (by rw [List.length_map, List.length_set]; omega) ?_
      clear H crow; intro w H
      replace H : SH w0 [gs, gr, gc, gn] w [⟨gs, 42, [I c, I at_, .slice hidA hid.length cap, .slice (some ⟨gr, 0, none⟩) R R, .slice (some ⟨gc, 0, none⟩) c c, I va3, .slice (some ⟨gn, 0, none⟩) 15 15]⟩, ⟨gr, 3, rows.map I⟩, ⟨gc, 3, (sums.set di (zF sums di - v)).map I⟩, ⟨gn, 4, seen3.map Bo⟩] := by
        have H : SH w0 [gs, gr, gc, gn] w [_, ⟨gr, 3, putL ((rows.set ri (zF rows ri - v)).map I) (0 + ri) [I (zF rows ri - v + v)]⟩, _, _] := H
        have e1 : (rows.set ri (zF rows ri - v)).set ri (zF rows ri - v + v) = rows := by
          rw [List.set_set, Int.sub_add_cancel]
          have : zF rows ri = rows[ri]'(by omega) := by simp [zF, rl, hqr]
          rw [this, List.set_getElem_self]
        rw [Nat.zero_add, putL_ones, e1] at H; exact H
      refine OPS.nil ?_
      refine WP.rtail 15 mixed (by kernel_rfl) H ?_
      clear H; intro w hbw19 H
      have csum : w.cell? ⟨gc, 0 + di, none⟩ = some (I (zF sums di - v)) := by rw [Nat.zero_add, ← g2']; exact intCell H 2 rfl di (by simp; omega)
      refine OPS.val rfl rfl rfl (Ev.mvP rfl) ?_
      refine OPS.val rfl rfl rfl ((by first | exact Ev.nilCheckP rfl | exact Ev.nilCheckF rfl)) ?_
      refine OPS.val rfl rfl rfl (Ev.fieldAddr (fld_run rfl) rfl) ?_
      refine OPS.val rfl rfl rfl (Ev.load1 (agg_run rfl) rfl (by first | exact H.ldL 0 rfl _ rfl | exact H.ldL 1 rfl _ rfl | exact H.ldL 2 rfl _ rfl | exact H.ldL 3 rfl _ rfl | exact H.ldL 4 rfl _ rfl | exact H.ldL 5 rfl _ rfl | exact H.ldL 6 rfl _ rfl | exact H.ldL 7 rfl _ rfl | exact H.ld0 (by assumption) | assumption | exact H.ldS (by assumption) (by assumption))) ?_
      refine OPS.val rfl rfl rfl (Ev.mvI rfl) ?_
      refine OPS.val rfl rfl rfl (Ev.mvP rfl) ?_
      refine OPS.val rfl rfl rfl ((by first | exact Ev.nilCheckP rfl | exact Ev.nilCheckF rfl)) ?_
      refine OPS.val rfl rfl rfl (Ev.fieldAddr (fld_run rfl) rfl) ?_
      refine OPS.val rfl rfl rfl (Ev.load1 (agg_run rfl) rfl (by first | exact H.ldL 0 rfl _ rfl | exact H.ldL 1 rfl _ rfl | exact H.ldL 2 rfl _ rfl | exact H.ldL 3 rfl _ rfl | exact H.ldL 4 rfl _ rfl | exact H.ldL 5 rfl _ rfl | exact H.ldL 6 rfl _ rfl | exact H.ldL 7 rfl _ rfl | exact H.ld0 (by assumption) | assumption | exact H.ldS (by assumption) (by assumption))) ?_
      refine OPS.val rfl rfl rfl (Ev.mvI rfl) ?_
      refine OPS.val rfl rfl rfl ((by first | exact Ev.indexAddr1 (el_run rfl) (size_run rfl) rfl rfl rfl (by omega) | exact Ev.indexAddr (el_run rfl) (size_run rfl) rfl rfl rfl (by omega))) ?_
      refine OPS.val rfl rfl rfl (Ev.load1 (agg_run rfl) rfl (by first | exact H.ldL 0 rfl _ rfl | exact H.ldL 1 rfl _ rfl | exact H.ldL 2 rfl _ rfl | exact H.ldL 3 rfl _ rfl | exact H.ldL 4 rfl _ rfl | exact H.ldL 5 rfl _ rfl | exact H.ldL 6 rfl _ rfl | exact H.ldL 7 rfl _ rfl | exact H.ld0 (by assumption) | assumption | exact H.ldS (by assumption) (by assumption))) ?_
      refine OPS.val rfl rfl rfl (Ev.mvI rfl) ?_
      refine OPS.val rfl rfl rfl (Ev.add rfl rfl (by unfold fits; omega)) ?_
      refine OPS.val rfl rfl rfl ((by first | exact Ev.indexAddr1 (el_run rfl) (size_run rfl) rfl rfl rfl (by omega) | exact Ev.indexAddr (el_run rfl) (size_run rfl) rfl rfl rfl (by omega))) ?_
      refine OPS.nil_s ?_
      refine OPS.store 2 _ rfl rfl rfl (size_run rfl) rfl (cI rfl) rfl rfl H rfl (by rw [List.length_map, List.length_set]; omega) ?_
      clear H csum; intro w H
      replace H : SH w0 [gs, gr, gc, gn] w [⟨gs, 42, [I c, I at_, .slice hidA hid.length cap, .slice (some ⟨gr, 0, none⟩) R R, .slice (some ⟨gc, 0, none⟩) c c, I va3, .slice (some ⟨gn, 0, none⟩) 15 15]⟩, ⟨gr, 3, rows.map I⟩, ⟨gc, 3, sums.map I⟩, ⟨gn, 4, seen3.map Bo⟩] := by
        have H : SH w0 [gs, gr, gc, gn] w [_, _, ⟨gc, 3, putL ((sums.set di (zF sums di - v)).map I) (0 + di) [I (zF sums di - v + v)]⟩, _] := H
        have e1 : (sums.set di (zF sums di - v)).set di (zF sums di - v + v) = sums := by
          rw [List.set_set, Int.sub_add_cancel]
          have : zF sums di = sums[di]'(by omega) := by simp [zF, sl, hqc]
          rw [this, List.set_getElem_self]
        rw [Nat.zero_add, putL_ones, e1] at H; exact H
      refine OPS.nil ?_
      refine WP.region ?_
      refine OPS.val rfl rfl rfl (Ev.mvI rfl) ?_
      refine OPS.val rfl rfl rfl (Ev.add rfl rfl (by unfold fits; omega)) ?_
      refine OPS.val rfl rfl rfl (Ev.asI rfl) ?_
      refine OPS.nil ?_
      refine ⟨(by repeat (first | exact Agree.refl _ _ | exact Agree.mix _ _ _ | refine Agree.upd rfl ?_ | refine Agree.mix2 rfl ?_)), (hi + 1 - ((v + 1 : Nat) : Int)).toNat, by omega, v + 1, va3, seen3, by omega, rfl, rfl, v315, n3, fun hf => ?_, fun x hx => ?_, H⟩
      · have hf2 := hf
        rw [hatq] at hf2
        have hne : q ≠ at_ := fun e => by subst e; rw [hhq] at hf2; simp at hf2
        have h3 : (decide (q + 1 ≤ at_) && hF hid at_) = false := by
          by_cases hle : q + 1 ≤ at_
          · rw [decide_eq_true (show q ≤ at_ by omega), Bool.true_and] at hf2
            rw [hf2, Bool.and_false]
          · rw [decide_eq_false hle]; rfl
        rw [hva3 h3, hva2, if_neg hne, hva1 hf]
      · rw [hs3 x hx, hs1 x hx]
        have hval : Seen c hid.length (q + 1) (hF hid) (updF (zF rows) ri (zF rows ri - v)) (updF (zF sums) di (zF sums di - v)) at_ va2 x ↔ Seen c hid.length (q + 1) (hF hid) (updF (zF rows) ri (zF rows ri - v)) (updF (zF sums) di (zF sums di - v)) at_ (if q = at_ then (v : Int) else va) x := by
          by_cases e : q = at_
          · rw [hva2, if_pos e, if_pos e]
          · rw [hva2, if_neg e, if_neg e]
            cases hf : (decide (k ≤ at_) && hF hid at_) with
            | false => rw [hva1 hf]
            | true =>
              refine Seen.val ?_
              rw [hatq] at hf
              simp only [Bool.and_eq_true, decide_eq_true_iff] at hf ⊢
              exact ⟨by omega, hf.2⟩
        rw [hval]
        constructor
        · rintro ((h | ⟨v', a, b, d, e⟩) | h)
          · exact .inl h
          · exact .inr ⟨v', a, by omega, d, e⟩
          · exact .inr ⟨v, hlv, by omega, hvhi, h⟩
        · rintro (h | ⟨v', a, b, d, e⟩)
          · exact .inl (.inl h)
          · by_cases hvv : v' < v
            · exact .inl (.inr ⟨v', a, hvv, d, e⟩)
            · obtain rfl : v' = v := by omega
              exact .inr e
    refine WP.exit ?_
    refine XB.hit ?_
    refine ⟨_, rfl, ?_⟩
    have hvend : hi < v := by subst hhi; simpa using hc11
    refine ⟨rfl, va1, seen1, H, n1, v115, hva1, fun x hx => ?_⟩
    rw [hs1 x hx, hseen, Seen.step hq hhq, hri, hdi]
    constructor
    · rintro (h | ⟨v', a, b, d, e⟩)
      · exact .inl h
      · exact .inr ⟨v', (hvok v').2 ⟨by omega, d⟩, e⟩
    · rintro (h | ⟨v', hV, e⟩)
      · exact .inl h
      · obtain ⟨a, b⟩ := (hvok v').1 hV
        obtain ⟨vn, rfl⟩ := Int.eq_ofNat_of_zero_le (show 0 ≤ v' by omega)
        exact .inr ⟨vn, by omega, by omega, b, e⟩
end Go.Proofs.Ytmkgfgnpgoegcaa
