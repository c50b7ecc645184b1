/-
  Walks: the program's check of a ride, third part.
-/
import Derived.Test.YtdlfadbdchjinaaW2
set_option linter.all false
namespace Go.Proofs.Ytdlfadbdchjinaa
open Go Go.W Go.RowKit

set_option maxHeartbeats 2000000 in
theorem rideOrdered (r : Ride) (w0 : World) (hr : RideAt w0 r) :
    Calls Try.prog 41 #[.agg (rideCells r).toArray] w0 fun e w' => e = .returned (.bool (orderedB r)) ∧ Below w0.heap.size w0 w' := by
  have H := SH.refl w0
  have hll := hr.ll
  have hpl := hr.pl
  obtain ⟨id, rider, sl, sh, el, eh, opn, ⟨LA, lc, ll⟩, ⟨PA, pc, pl⟩, fw, fp, wh, pp⟩ := r
  have hL := hr.legs
  have hP := hr.paus
  simp only at hL hP hll hpl
  unfold maxLen at hll hpl
  have hje : orderedB ⟨id, rider, sl, sh, el, eh, opn, ⟨LA, lc, ll⟩, ⟨PA, pc, pl⟩, fw, fp, wh, pp⟩ = (legsB opn ll && (pl.isEmpty || pauB opn el sl pl)) := rfl
  refine Calls.ofWP Try.func41 rfl Try.results41 Try.ntmps41 rfl ?_
  refine WP.seq ?_
  refine WP.region ?_
  refine OPS.box rfl rfl rfl rfl (cA rfl) H ?_
  clear H; intro g1 w H
  refine OPS.val rfl rfl rfl (Ev.asB rfl) ?_
  refine OPS.nil ?_
  refine WP.seq ?_
  refine WP.seq ?_
  refine WP.region ?_
  refine OPS.val rfl rfl rfl (Ev.fieldAddr (fld_run rfl) rfl) ?_
  refine OPS.val rfl rfl rfl (Ev.load1 (agg_run rfl) rfl (by first | exact H.ldL 0 rfl _ rfl | exact H.ldL 1 rfl _ rfl | exact H.ldL 2 rfl _ rfl | exact H.ldL 3 rfl _ rfl | exact H.ldL 4 rfl _ rfl | exact H.ldL 5 rfl _ rfl | exact H.ldL 6 rfl _ rfl | exact H.ldL 7 rfl _ rfl | exact H.ld0 (by assumption) | assumption | exact H.ldS (by assumption) (by assumption))) ?_
  refine OPS.val rfl rfl rfl (Ev.len (el_run rfl) rfl) ?_
  refine OPS.val rfl rfl rfl (Ev.mvI rfl) ?_
  refine OPS.nil ?_
  refine WP.block ?_
  refine WP.loop [2, 3, 4, 11, 12, 13, 14, 15, 16, 17, 18, 19, 20, 21, 22, 23, 24, 25, 26, 27, 28, 29, 30, 31, 32, 33, 34, 35, 36] (fun k e w' => ∃ (j : Nat), j + k = ll.length ∧ e 11 = I j ∧ legsB opn ll = legsB opn (ll.drop j) ∧ SH w0 [] w' [⟨g1, 50, rideCells ⟨id, rider, sl, sh, el, eh, opn, ⟨LA, lc, ll⟩, ⟨PA, pc, pl⟩, fw, fp, wh, pp⟩⟩]) (ll.length) (⟨0, by omega, rfl, rfl, H⟩) ?_
  clear H
  rintro k u w ⟨j, hk, h11, hall, H⟩
  refine WP.know (t := 11) h11 ?_
  refine WP.seq ?_
  refine WP.region ?_
  refine OPS.val rfl rfl rfl (Ev.lss rfl rfl) ?_
  refine OPS.nil ?_
  refine WP.seq ?_
  refine WP.cond rfl (fun hc2 => ?_) (fun hc2 => ?_)
  · have hlt : j < ll.length := by simpa using hc2
    obtain ⟨bl, o, rfl, hc⟩ := hL j hlt
    have hc' := cellsAt_sh H hc
    have hde := drop_empty hlt
    obtain ⟨x, hx⟩ : ∃ x, x = ll[j] := ⟨_, rfl⟩
    rw [drop_get hlt, ← hx, legsB, hde] at hall
    rw [← hx] at hc hc'
    refine WP.skip ?_
    refine WP.seq ?_
    refine WP.block ?_
    refine WP.seq ?_
    refine WP.region ?_
    refine OPS.val rfl rfl rfl (Ev.mvI rfl) ?_
    refine OPS.val rfl rfl rfl ((by first | exact Ev.indexAddr1 (el_run rfl) (size_run rfl) rfl rfl rfl (by omega) | exact Ev.indexAddr (el_run rfl) (size_run rfl) rfl rfl rfl (by omega))) ?_
    refine OPS.val rfl rfl rfl ((by first | exact Ev.loadO 0 H rfl (agg_run rfl) (size_run rfl) (by first | assumption | rfl) rfl | exact Ev.loadO 1 H rfl (agg_run rfl) (size_run rfl) (by first | assumption | rfl) rfl | exact Ev.loadO 2 H rfl (agg_run rfl) (size_run rfl) (by first | assumption | rfl) rfl | exact Ev.loadO 3 H rfl (agg_run rfl) (size_run rfl) (by first | assumption | rfl) rfl | exact Ev.loadO 4 H rfl (agg_run rfl) (size_run rfl) (by first | assumption | rfl) rfl | exact Ev.loadO 5 H rfl (agg_run rfl) (size_run rfl) (by first | assumption | rfl) rfl | exact Ev.loadO 6 H rfl (agg_run rfl) (size_run rfl) (by first | assumption | rfl) rfl | (change Ev _ _ _ _ (Op.load 54 (Operand.tmp 14)) _; exact Ev.loadN (legCells x) (agg_run rfl) (size_run rfl) rfl hc'))) ?_
    refine OPS.alloc rfl rfl rfl rfl (zero_run rfl) rfl H ?_
    clear H; intro g4 w H
    refine OPS.val rfl rfl rfl (Ev.asI rfl) ?_
    first | refine OPS.store 0 _ rfl rfl rfl (size_run rfl) rfl (cA rfl) rfl rfl H rfl (by simp) ?_ | refine OPS.store 1 _ rfl rfl rfl (size_run rfl) rfl (cA rfl) rfl rfl H rfl (by simp) ?_ | refine OPS.store 2 _ rfl rfl rfl (size_run rfl) rfl (cA rfl) rfl rfl H rfl (by simp) ?_ | refine OPS.store 3 _ rfl rfl rfl (size_run rfl) rfl (cA rfl) rfl rfl H rfl (by simp) ?_ | refine OPS.store 4 _ rfl rfl rfl (size_run rfl) rfl (cA rfl) rfl rfl H rfl (by simp) ?_ | refine OPS.store 5 _ rfl rfl rfl (size_run rfl) rfl (cA rfl) rfl rfl H rfl (by simp) ?_ | refine OPS.store 6 _ rfl rfl rfl (size_run rfl) rfl (cA rfl) rfl rfl H rfl (by simp) ?_ | refine OPS.store 7 _ rfl rfl rfl (size_run rfl) rfl (cA rfl) rfl rfl H rfl (by simp) ?_ | refine OPS.store 8 _ rfl rfl rfl (size_run rfl) rfl (cA rfl) rfl rfl H rfl (by simp) ?_
    clear H; intro w H; try simp only [List.set_cons_zero, List.set_cons_succ, putL, Nat.zero_add] at H
    refine OPS.nil ?_
    refine WP.seq ?_
    dsimp only [legCells, rideCells] at H
    refine WP.region ?_
    refine OPS.val rfl rfl rfl (Ev.fieldAddr (fld_run rfl) rfl) ?_
    refine OPS.val rfl rfl rfl (Ev.fieldAddr (fld_run rfl) rfl) ?_
    refine OPS.val rfl rfl rfl (Ev.load1 (agg_run rfl) rfl (by first | exact H.ldL 0 rfl _ rfl | exact H.ldL 1 rfl _ rfl | exact H.ldL 2 rfl _ rfl | exact H.ldL 3 rfl _ rfl | exact H.ldL 4 rfl _ rfl | exact H.ldL 5 rfl _ rfl | exact H.ldL 6 rfl _ rfl | exact H.ldL 7 rfl _ rfl | exact H.ld0 (by assumption) | assumption | exact H.ldS (by assumption) (by assumption))) ?_
    refine OPS.val rfl rfl rfl (Ev.fieldAddr (fld_run rfl) rfl) ?_
    refine OPS.val rfl rfl rfl (Ev.fieldAddr (fld_run rfl) rfl) ?_
    refine OPS.val rfl rfl rfl (Ev.load1 (agg_run rfl) rfl (by first | exact H.ldL 0 rfl _ rfl | exact H.ldL 1 rfl _ rfl | exact H.ldL 2 rfl _ rfl | exact H.ldL 3 rfl _ rfl | exact H.ldL 4 rfl _ rfl | exact H.ldL 5 rfl _ rfl | exact H.ldL 6 rfl _ rfl | exact H.ldL 7 rfl _ rfl | exact H.ld0 (by assumption) | assumption | exact H.ldS (by assumption) (by assumption))) ?_
    refine OPS.val rfl rfl rfl (Ev.gtr rfl rfl) ?_
    refine OPS.val rfl rfl rfl (Ev.mvB rfl) ?_
    refine OPS.gval rfl rfl rfl rfl rfl (fun hg => Ev.fieldAddr (fld_run rfl) (by first | rfl | exact gvE hg rfl)) ?_
    refine OPS.gval rfl rfl rfl rfl rfl (fun hg => Ev.load1 (agg_run rfl) (by first | rfl | exact gvE hg rfl) (by first | exact H.ldL 0 rfl _ rfl | exact H.ldL 1 rfl _ rfl | exact H.ldL 2 rfl _ rfl | exact H.ldL 3 rfl _ rfl | exact H.ldL 4 rfl _ rfl | exact H.ldL 5 rfl _ rfl | exact H.ldL 6 rfl _ rfl | exact H.ldL 7 rfl _ rfl | exact H.ld0 (by assumption) | assumption | exact H.ldS (by assumption) (by assumption))) ?_
    refine OPS.gval rfl rfl rfl rfl rfl (fun hg => Ev.mvB (by first | rfl | exact gvE hg rfl)) ?_
    refine OPS.gvalN rfl rfl (GB.g rfl) rfl rfl (fun hg => Ev.mvI (by first | rfl | exact gvE hg rfl)) ?_
    refine OPS.gvalN rfl rfl (GB.g rfl) rfl rfl (fun hg => Ev.fieldAddr (fld_run rfl) (by first | rfl | exact gvE hg rfl)) ?_
    refine OPS.gvalN rfl rfl (GB.g rfl) rfl rfl (fun hg => Ev.load1 (agg_run rfl) (by first | rfl | exact gvE hg rfl) (by first | exact H.ldL 0 rfl _ rfl | exact H.ldL 1 rfl _ rfl | exact H.ldL 2 rfl _ rfl | exact H.ldL 3 rfl _ rfl | exact H.ldL 4 rfl _ rfl | exact H.ldL 5 rfl _ rfl | exact H.ldL 6 rfl _ rfl | exact H.ldL 7 rfl _ rfl | exact H.ld0 (by assumption) | assumption | exact H.ldS (by assumption) (by assumption))) ?_
    refine OPS.gvalN rfl rfl (GB.g rfl) rfl rfl (fun hg => Ev.len (el_run rfl) (by first | rfl | exact gvE hg rfl)) ?_
    refine OPS.gvalN rfl rfl (GB.g rfl) rfl rfl (fun hg => Ev.sub (by first | rfl | exact gvE hg rfl) (by first | rfl | exact gvE hg rfl) (by unfold fits; omega)) ?_
    refine OPS.gvalN rfl rfl (GB.g rfl) rfl rfl (fun hg => Ev.eql (by first | rfl | exact gvE hg rfl) (by first | rfl | exact gvE hg rfl)) ?_
    refine OPS.gval rfl rfl rfl rfl rfl (fun hg => (by first | exact Ev.pickAnd2 (beqT hg) (gvE hg rfl) rfl rfl | exact Ev.pickOr2 (beqT hg) (gvE hg rfl) rfl rfl)) ?_
    refine OPS.gval rfl rfl rfl rfl rfl (fun hg => Ev.not (by first | rfl | exact gvE hg rfl)) ?_
    refine OPS.val rfl rfl rfl ((by first | exact Ev.pickOr rfl rfl rfl | exact Ev.pickAnd rfl rfl rfl)) ?_
    refine OPS.nil ?_
    refine WP.cond rfl (fun hc4 => ?_) (fun hc4 => ?_)
    · refine WP.seq ?_
      refine WP.region ?_
      refine OPS.val rfl rfl rfl (Ev.asB rfl) ?_
      refine OPS.nil ?_
      refine WP.ret ⟨_, rfl, ?_⟩
      exact ⟨ret_b rfl (by rw [hje, hall]; grind), H.below⟩
    refine WP.skip ?_
    refine WP.region ?_
    refine OPS.val rfl rfl rfl (Ev.add rfl rfl (by unfold fits; omega)) ?_
    refine OPS.val rfl rfl rfl (Ev.mvI rfl) ?_
    refine OPS.nil ?_
    exact ⟨(by repeat (first | exact Agree.refl _ _ | exact Agree.mix _ _ _ | refine Agree.upd rfl ?_ | refine Agree.mix2 rfl ?_)), k - 1, by omega, j + 1, by omega, rfl, by rw [hall]; grind, H.drop (List.sublist_cons_self _ _)⟩
  have hj : j = ll.length := by simp at hc2; omega
  rw [hj, List.drop_length, legsB] at hall
  rw [hall, Bool.true_and] at hje
  clear hall
  refine WP.exit ?_
  refine XB.hit ?_
  refine WP.seq ?_
  refine WP.region ?_
  refine OPS.val rfl rfl rfl (Ev.fieldAddr (fld_run rfl) rfl) ?_
  refine OPS.val rfl rfl rfl (Ev.fieldAddr (fld_run rfl) rfl) ?_
  refine OPS.val rfl rfl rfl (Ev.load1 (agg_run rfl) rfl (by first | exact H.ldL 0 rfl _ rfl | exact H.ldL 1 rfl _ rfl | exact H.ldL 2 rfl _ rfl | exact H.ldL 3 rfl _ rfl | exact H.ldL 4 rfl _ rfl | exact H.ldL 5 rfl _ rfl | exact H.ldL 6 rfl _ rfl | exact H.ldL 7 rfl _ rfl | exact H.ld0 (by assumption) | assumption | exact H.ldS (by assumption) (by assumption))) ?_
  refine OPS.val rfl rfl rfl (Ev.asI rfl) ?_
  refine OPS.nil ?_
  refine WP.seq ?_
  refine WP.seq ?_
  refine WP.region ?_
  refine OPS.val rfl rfl rfl (Ev.fieldAddr (fld_run rfl) rfl) ?_
  refine OPS.val rfl rfl rfl (Ev.load1 (agg_run rfl) rfl (by first | exact H.ldL 0 rfl _ rfl | exact H.ldL 1 rfl _ rfl | exact H.ldL 2 rfl _ rfl | exact H.ldL 3 rfl _ rfl | exact H.ldL 4 rfl _ rfl | exact H.ldL 5 rfl _ rfl | exact H.ldL 6 rfl _ rfl | exact H.ldL 7 rfl _ rfl | exact H.ld0 (by assumption) | assumption | exact H.ldS (by assumption) (by assumption))) ?_
  refine OPS.val rfl rfl rfl (Ev.len (el_run rfl) rfl) ?_
  refine OPS.val rfl rfl rfl (Ev.mvI rfl) ?_
  refine OPS.nil ?_
  refine WP.block ?_
  refine WP.loop [2, 5, 6, 7, 43, 44, 45, 46, 47, 48, 49, 50, 51, 52, 53, 54, 55, 56, 57, 58, 59, 60, 61, 62, 63, 64, 65, 66, 67, 68, 69, 70, 71, 72, 73, 74, 75, 76, 77, 78, 79, 80] (fun k e w' => ∃ (j : Nat) (last : Int), j + k = pl.length ∧ e 43 = I j ∧ e 5 = I last ∧ pauB opn el sl pl = pauB opn el last (pl.drop j) ∧ SH w0 [] w' [⟨g1, 50, rideCells ⟨id, rider, sl, sh, el, eh, opn, ⟨LA, lc, ll⟩, ⟨PA, pc, pl⟩, fw, fp, wh, pp⟩⟩]) (pl.length) (⟨0, sl, by omega, rfl, rfl, rfl, H⟩) ?_
  clear H
  rintro k u w ⟨j, last, hk, h43, h5, hall, H⟩
  refine WP.know (t := 43) h43 (WP.know (t := 5) h5 ?_)
  refine WP.seq ?_
  refine WP.region ?_
  refine OPS.val rfl rfl rfl (Ev.lss rfl rfl) ?_
  refine OPS.nil ?_
  refine WP.seq ?_
  refine WP.cond rfl (fun hc9 => ?_) (fun hc9 => ?_)
  · have hlt : j < pl.length := by simpa using hc9
    obtain ⟨bl, o, rfl, hc⟩ := hP j hlt
    have hc' := cellsAt_sh H hc
    have hde := drop_empty hlt
    have hne : pl.isEmpty = false := by cases pl with | nil => simp at hlt | cons a t => rfl
    obtain ⟨x, hx⟩ : ∃ x, x = pl[j] := ⟨_, rfl⟩
    rw [drop_get hlt, ← hx, pauB, hde] at hall
    rw [← hx] at hc hc'
    rw [hne, Bool.false_or] at hje
    refine WP.skip ?_
    refine WP.seq ?_
    refine WP.block ?_
    refine WP.seq ?_
    refine WP.region ?_
    refine OPS.val rfl rfl rfl (Ev.mvI rfl) ?_
    refine OPS.val rfl rfl rfl ((by first | exact Ev.indexAddr1 (el_run rfl) (size_run rfl) rfl rfl rfl (by omega) | exact Ev.indexAddr (el_run rfl) (size_run rfl) rfl rfl rfl (by omega))) ?_
    refine OPS.val rfl rfl rfl ((by first | exact Ev.loadO 0 H rfl (agg_run rfl) (size_run rfl) (by first | assumption | rfl) rfl | exact Ev.loadO 1 H rfl (agg_run rfl) (size_run rfl) (by first | assumption | rfl) rfl | exact Ev.loadO 2 H rfl (agg_run rfl) (size_run rfl) (by first | assumption | rfl) rfl | exact Ev.loadO 3 H rfl (agg_run rfl) (size_run rfl) (by first | assumption | rfl) rfl | exact Ev.loadO 4 H rfl (agg_run rfl) (size_run rfl) (by first | assumption | rfl) rfl | exact Ev.loadO 5 H rfl (agg_run rfl) (size_run rfl) (by first | assumption | rfl) rfl | exact Ev.loadO 6 H rfl (agg_run rfl) (size_run rfl) (by first | assumption | rfl) rfl | (change Ev _ _ _ _ (Op.load 89 (Operand.tmp 46)) _; exact Ev.loadN (pauCells x) (agg_run rfl) (size_run rfl) rfl hc'))) ?_
    refine OPS.alloc rfl rfl rfl rfl (zero_run rfl) rfl H ?_
    clear H; intro g7 w H
    refine OPS.val rfl rfl rfl (Ev.asI rfl) ?_
    first | refine OPS.store 0 _ rfl rfl rfl (size_run rfl) rfl (cA rfl) rfl rfl H rfl (by simp) ?_ | refine OPS.store 1 _ rfl rfl rfl (size_run rfl) rfl (cA rfl) rfl rfl H rfl (by simp) ?_ | refine OPS.store 2 _ rfl rfl rfl (size_run rfl) rfl (cA rfl) rfl rfl H rfl (by simp) ?_ | refine OPS.store 3 _ rfl rfl rfl (size_run rfl) rfl (cA rfl) rfl rfl H rfl (by simp) ?_ | refine OPS.store 4 _ rfl rfl rfl (size_run rfl) rfl (cA rfl) rfl rfl H rfl (by simp) ?_ | refine OPS.store 5 _ rfl rfl rfl (size_run rfl) rfl (cA rfl) rfl rfl H rfl (by simp) ?_ | refine OPS.store 6 _ rfl rfl rfl (size_run rfl) rfl (cA rfl) rfl rfl H rfl (by simp) ?_ | refine OPS.store 7 _ rfl rfl rfl (size_run rfl) rfl (cA rfl) rfl rfl H rfl (by simp) ?_ | refine OPS.store 8 _ rfl rfl rfl (size_run rfl) rfl (cA rfl) rfl rfl H rfl (by simp) ?_
    clear H; intro w H; try simp only [List.set_cons_zero, List.set_cons_succ, putL, Nat.zero_add] at H
    refine OPS.nil ?_
    refine WP.seq ?_
    refine WP.seq ?_
    dsimp only [pauCells, rideCells] at H
    refine WP.region ?_
    refine OPS.val rfl rfl rfl (Ev.fieldAddr (fld_run rfl) rfl) ?_
    refine OPS.val rfl rfl rfl (Ev.fieldAddr (fld_run rfl) rfl) ?_
    refine OPS.val rfl rfl rfl (Ev.load1 (agg_run rfl) rfl (by first | exact H.ldL 0 rfl _ rfl | exact H.ldL 1 rfl _ rfl | exact H.ldL 2 rfl _ rfl | exact H.ldL 3 rfl _ rfl | exact H.ldL 4 rfl _ rfl | exact H.ldL 5 rfl _ rfl | exact H.ldL 6 rfl _ rfl | exact H.ldL 7 rfl _ rfl | exact H.ld0 (by assumption) | assumption | exact H.ldS (by assumption) (by assumption))) ?_
    refine OPS.val rfl rfl rfl (Ev.mvI rfl) ?_
    refine OPS.val rfl rfl rfl (Ev.lss rfl rfl) ?_
    refine OPS.nil ?_
    refine WP.cond rfl (fun hc11 => ?_) (fun hc11 => ?_)
    · refine WP.seq ?_
      refine WP.region ?_
      refine OPS.val rfl rfl rfl (Ev.asB rfl) ?_
      refine OPS.nil ?_
      refine WP.ret ⟨_, rfl, ?_⟩
      exact ⟨ret_b rfl (by rw [hje, hall]; grind), H.below⟩
    refine WP.skip ?_
    refine WP.seq ?_
    refine WP.region ?_
    refine OPS.val rfl rfl rfl (Ev.fieldAddr (fld_run rfl) rfl) ?_
    refine OPS.val rfl rfl rfl (Ev.fieldAddr (fld_run rfl) rfl) ?_
    refine OPS.val rfl rfl rfl (Ev.load1 (agg_run rfl) rfl (by first | exact H.ldL 0 rfl _ rfl | exact H.ldL 1 rfl _ rfl | exact H.ldL 2 rfl _ rfl | exact H.ldL 3 rfl _ rfl | exact H.ldL 4 rfl _ rfl | exact H.ldL 5 rfl _ rfl | exact H.ldL 6 rfl _ rfl | exact H.ldL 7 rfl _ rfl | exact H.ld0 (by assumption) | assumption | exact H.ldS (by assumption) (by assumption))) ?_
    refine OPS.val rfl rfl rfl (Ev.asI rfl) ?_
    refine OPS.nil ?_
    refine WP.seq ?_
    refine WP.seq ?_
    refine WP.region ?_
    refine OPS.val rfl rfl rfl (Ev.fieldAddr (fld_run rfl) rfl) ?_
    refine OPS.val rfl rfl rfl (Ev.load1 (agg_run rfl) rfl (by first | exact H.ldL 0 rfl _ rfl | exact H.ldL 1 rfl _ rfl | exact H.ldL 2 rfl _ rfl | exact H.ldL 3 rfl _ rfl | exact H.ldL 4 rfl _ rfl | exact H.ldL 5 rfl _ rfl | exact H.ldL 6 rfl _ rfl | exact H.ldL 7 rfl _ rfl | exact H.ld0 (by assumption) | assumption | exact H.ldS (by assumption) (by assumption))) ?_
    refine OPS.val rfl rfl rfl (Ev.mvB rfl) ?_
    refine OPS.gval rfl rfl rfl rfl rfl (fun hg => Ev.mvI (by first | rfl | exact gvE hg rfl)) ?_
    refine OPS.gval rfl rfl rfl rfl rfl (fun hg => Ev.fieldAddr (fld_run rfl) (by first | rfl | exact gvE hg rfl)) ?_
    refine OPS.gval rfl rfl rfl rfl rfl (fun hg => Ev.load1 (agg_run rfl) (by first | rfl | exact gvE hg rfl) (by first | exact H.ldL 0 rfl _ rfl | exact H.ldL 1 rfl _ rfl | exact H.ldL 2 rfl _ rfl | exact H.ldL 3 rfl _ rfl | exact H.ldL 4 rfl _ rfl | exact H.ldL 5 rfl _ rfl | exact H.ldL 6 rfl _ rfl | exact H.ldL 7 rfl _ rfl | exact H.ld0 (by assumption) | assumption | exact H.ldS (by assumption) (by assumption))) ?_
    refine OPS.gval rfl rfl rfl rfl rfl (fun hg => Ev.len (el_run rfl) (by first | rfl | exact gvE hg rfl)) ?_
    refine OPS.gval rfl rfl rfl rfl rfl (fun hg => Ev.sub (by first | rfl | exact gvE hg rfl) (by first | rfl | exact gvE hg rfl) (by unfold fits; omega)) ?_
    refine OPS.gval rfl rfl rfl rfl rfl (fun hg => Ev.eql (by first | rfl | exact gvE hg rfl) (by first | rfl | exact gvE hg rfl)) ?_
    refine OPS.val rfl rfl rfl ((by first | exact Ev.pickOr rfl rfl rfl | exact Ev.pickAnd rfl rfl rfl)) ?_
    refine OPS.val rfl rfl rfl (Ev.mvB rfl) ?_
    refine OPS.gval rfl rfl rfl rfl rfl (fun hg => Ev.fieldAddr (fld_run rfl) (by first | rfl | exact gvE hg rfl)) ?_
    refine OPS.gval rfl rfl rfl rfl rfl (fun hg => Ev.fieldAddr (fld_run rfl) (by first | rfl | exact gvE hg rfl)) ?_
    refine OPS.gval rfl rfl rfl rfl rfl (fun hg => Ev.load1 (agg_run rfl) (by first | rfl | exact gvE hg rfl) (by first | exact H.ldL 0 rfl _ rfl | exact H.ldL 1 rfl _ rfl | exact H.ldL 2 rfl _ rfl | exact H.ldL 3 rfl _ rfl | exact H.ldL 4 rfl _ rfl | exact H.ldL 5 rfl _ rfl | exact H.ldL 6 rfl _ rfl | exact H.ldL 7 rfl _ rfl | exact H.ld0 (by assumption) | assumption | exact H.ldS (by assumption) (by assumption))) ?_
    refine OPS.gval rfl rfl rfl rfl rfl (fun hg => Ev.eql (by first | rfl | exact gvE hg rfl) (by first | rfl | exact gvE hg rfl)) ?_
    refine OPS.val rfl rfl rfl ((by first | exact Ev.pickOr rfl rfl rfl | exact Ev.pickAnd rfl rfl rfl)) ?_
    refine OPS.nil ?_
    refine WP.cond rfl (fun hc14 => ?_) (fun hc14 => ?_)
    · refine WP.seq ?_
      refine WP.region ?_
      refine OPS.val rfl rfl rfl (Ev.asB rfl) ?_
      refine OPS.nil ?_
      refine WP.ret ⟨_, rfl, ?_⟩
      exact ⟨ret_b rfl (by rw [hje, hall]; grind), H.below⟩
    refine WP.skip ?_
    refine WP.seq ?_
    refine WP.seq ?_
    refine WP.region ?_
    refine OPS.val rfl rfl rfl (Ev.fieldAddr (fld_run rfl) rfl) ?_
    refine OPS.val rfl rfl rfl (Ev.fieldAddr (fld_run rfl) rfl) ?_
    refine OPS.val rfl rfl rfl (Ev.load1 (agg_run rfl) rfl (by first | exact H.ldL 0 rfl _ rfl | exact H.ldL 1 rfl _ rfl | exact H.ldL 2 rfl _ rfl | exact H.ldL 3 rfl _ rfl | exact H.ldL 4 rfl _ rfl | exact H.ldL 5 rfl _ rfl | exact H.ldL 6 rfl _ rfl | exact H.ldL 7 rfl _ rfl | exact H.ld0 (by assumption) | assumption | exact H.ldS (by assumption) (by assumption))) ?_
    refine OPS.val rfl rfl rfl (Ev.mvI rfl) ?_
    refine OPS.val rfl rfl rfl (Ev.lss rfl rfl) ?_
    refine OPS.nil ?_
    refine WP.cond rfl (fun hc16 => ?_) (fun hc16 => ?_)
    · refine WP.seq ?_
      refine WP.region ?_
      refine OPS.val rfl rfl rfl (Ev.asB rfl) ?_
      refine OPS.nil ?_
      refine WP.ret ⟨_, rfl, ?_⟩
      exact ⟨ret_b rfl (by rw [hje, hall]; grind), H.below⟩
    refine WP.skip ?_
    refine WP.region ?_
    refine OPS.val rfl rfl rfl (Ev.fieldAddr (fld_run rfl) rfl) ?_
    refine OPS.val rfl rfl rfl (Ev.fieldAddr (fld_run rfl) rfl) ?_
    refine OPS.val rfl rfl rfl (Ev.load1 (agg_run rfl) rfl (by first | exact H.ldL 0 rfl _ rfl | exact H.ldL 1 rfl _ rfl | exact H.ldL 2 rfl _ rfl | exact H.ldL 3 rfl _ rfl | exact H.ldL 4 rfl _ rfl | exact H.ldL 5 rfl _ rfl | exact H.ldL 6 rfl _ rfl | exact H.ldL 7 rfl _ rfl | exact H.ld0 (by assumption) | assumption | exact H.ldS (by assumption) (by assumption))) ?_
    refine OPS.val rfl rfl rfl (Ev.asI rfl) ?_
    refine OPS.nil ?_
    refine WP.region ?_
    refine OPS.val rfl rfl rfl (Ev.add rfl rfl (by unfold fits; omega)) ?_
    refine OPS.val rfl rfl rfl (Ev.mvI rfl) ?_
    refine OPS.nil ?_
    exact ⟨(by repeat (first | exact Agree.refl _ _ | exact Agree.mix _ _ _ | refine Agree.upd rfl ?_ | refine Agree.mix2 rfl ?_)), k - 1, by omega, j + 1, x.tl, by omega, rfl, rfl, by rw [hall]; grind, H.drop (List.sublist_cons_self _ _)⟩
  have hj : j = pl.length := by simp at hc9; omega
  rw [hj, List.drop_length, pauB] at hall
  have hie : pl.isEmpty = decide ((pl.length : Int) = 0) := by cases pl with | nil => rfl | cons a t => simp; omega
  dsimp only [rideCells] at H
  refine WP.exit ?_
  refine XB.hit ?_
  refine WP.seq ?_
  refine WP.region ?_
  refine OPS.val rfl rfl rfl (Ev.fieldAddr (fld_run rfl) rfl) ?_
  refine OPS.val rfl rfl rfl (Ev.load1 (agg_run rfl) rfl (by first | exact H.ldL 0 rfl _ rfl | exact H.ldL 1 rfl _ rfl | exact H.ldL 2 rfl _ rfl | exact H.ldL 3 rfl _ rfl | exact H.ldL 4 rfl _ rfl | exact H.ldL 5 rfl _ rfl | exact H.ldL 6 rfl _ rfl | exact H.ldL 7 rfl _ rfl | exact H.ld0 (by assumption) | assumption | exact H.ldS (by assumption) (by assumption))) ?_
  refine OPS.val rfl rfl rfl (Ev.mvB rfl) ?_
  refine OPS.gval rfl rfl rfl rfl rfl (fun hg => Ev.fieldAddr (fld_run rfl) (by first | rfl | exact gvE hg rfl)) ?_
  refine OPS.gval rfl rfl rfl rfl rfl (fun hg => Ev.load1 (agg_run rfl) (by first | rfl | exact gvE hg rfl) (by first | exact H.ldL 0 rfl _ rfl | exact H.ldL 1 rfl _ rfl | exact H.ldL 2 rfl _ rfl | exact H.ldL 3 rfl _ rfl | exact H.ldL 4 rfl _ rfl | exact H.ldL 5 rfl _ rfl | exact H.ldL 6 rfl _ rfl | exact H.ldL 7 rfl _ rfl | exact H.ld0 (by assumption) | assumption | exact H.ldS (by assumption) (by assumption))) ?_
  refine OPS.gval rfl rfl rfl rfl rfl (fun hg => Ev.len (el_run rfl) (by first | rfl | exact gvE hg rfl)) ?_
  refine OPS.gval rfl rfl rfl rfl rfl (fun hg => Ev.eql (by first | rfl | exact gvE hg rfl) (by first | rfl | exact gvE hg rfl)) ?_
  refine OPS.val rfl rfl rfl ((by first | exact Ev.pickOr rfl rfl rfl | exact Ev.pickAnd rfl rfl rfl)) ?_
  refine OPS.val rfl rfl rfl (Ev.mvB rfl) ?_
  refine OPS.gval rfl rfl rfl rfl rfl (fun hg => Ev.mvI (by first | rfl | exact gvE hg rfl)) ?_
  refine OPS.gval rfl rfl rfl rfl rfl (fun hg => Ev.fieldAddr (fld_run rfl) (by first | rfl | exact gvE hg rfl)) ?_
  refine OPS.gval rfl rfl rfl rfl rfl (fun hg => Ev.fieldAddr (fld_run rfl) (by first | rfl | exact gvE hg rfl)) ?_
  refine OPS.gval rfl rfl rfl rfl rfl (fun hg => Ev.load1 (agg_run rfl) (by first | rfl | exact gvE hg rfl) (by first | exact H.ldL 0 rfl _ rfl | exact H.ldL 1 rfl _ rfl | exact H.ldL 2 rfl _ rfl | exact H.ldL 3 rfl _ rfl | exact H.ldL 4 rfl _ rfl | exact H.ldL 5 rfl _ rfl | exact H.ldL 6 rfl _ rfl | exact H.ldL 7 rfl _ rfl | exact H.ld0 (by assumption) | assumption | exact H.ldS (by assumption) (by assumption))) ?_
  refine OPS.gval rfl rfl rfl rfl rfl (fun hg => Ev.leq (by first | rfl | exact gvE hg rfl) (by first | rfl | exact gvE hg rfl)) ?_
  refine OPS.val rfl rfl rfl ((by first | exact Ev.pickOr rfl rfl rfl | exact Ev.pickAnd rfl rfl rfl)) ?_
  refine OPS.val rfl rfl rfl (Ev.asB rfl) ?_
  refine OPS.nil ?_
  refine WP.ret ⟨_, rfl, ?_⟩
  exact ⟨ret_b rfl (by rw [hje, hall, hie]; grind), H.below⟩
theorem rideCheck (r : Ride) (w0 : World) (hr : RideAt w0 r) :
    Calls Try.prog 33 #[.agg (rideCells r).toArray] w0 fun e w' => e = .returned (I (rideErr r)) ∧ Below w0.heap.size w0 w' := by
  have H := SH.refl w0
  obtain ⟨id, rider, sl, sh, el, eh, opn, ⟨LA, lc, ll⟩, ⟨PA, pc, pl⟩, fw, fp, wh, pp⟩ := r
  obtain ⟨r, hre⟩ : ∃ r : Ride, r = ⟨id, rider, sl, sh, el, eh, opn, ⟨LA, lc, ll⟩, ⟨PA, pc, pl⟩, fw, fp, wh, pp⟩ := ⟨_, rfl⟩
  rw [← hre] at hr ⊢
  refine Calls.ofWP Try.func33 rfl Try.results33 Try.ntmps33 rfl ?_
  refine WP.seq ?_
  refine WP.region ?_
  refine OPS.box rfl rfl rfl rfl (cA rfl) H ?_
  clear H; intro g1 w H
  refine OPS.val rfl rfl rfl (Ev.asI rfl) ?_
  refine OPS.nil ?_
  refine WP.seq ?_
  refine WP.block ?_
  refine WP.seq ?_
  refine WP.region ?_
  refine OPS.val rfl rfl rfl ((by first | exact Ev.loadO 0 H rfl (agg_run rfl) (size_run rfl) (by first | assumption | rfl) rfl | exact Ev.loadO 1 H rfl (agg_run rfl) (size_run rfl) (by first | assumption | rfl) rfl | exact Ev.loadO 2 H rfl (agg_run rfl) (size_run rfl) (by first | assumption | rfl) rfl | exact Ev.loadO 3 H rfl (agg_run rfl) (size_run rfl) (by first | assumption | rfl) rfl | exact Ev.loadO 4 H rfl (agg_run rfl) (size_run rfl) (by first | assumption | rfl) rfl | exact Ev.loadO 5 H rfl (agg_run rfl) (size_run rfl) (by first | assumption | rfl) rfl | exact Ev.loadO 6 H rfl (agg_run rfl) (size_run rfl) (by first | assumption | rfl) rfl | (change Ev _ _ _ _ (Op.load 50 (Operand.tmp 1)) _; fail))) ?_
  refine OPS.call (d := some 5) rfl rfl rfl (EvC.func (fun_run rfl)) (rideRanged r w (hr.sh H)) ?_
  rintro _ w ⟨rfl, hb⟩
  refine ⟨_, rfl, ?_⟩
  replace H := H.toBelow hb; clear hb
  refine OPS.val rfl rfl rfl (Ev.not rfl) ?_
  refine OPS.val rfl rfl rfl (Ev.asB rfl) ?_
  refine OPS.nil ?_
  refine WP.cond rfl (fun hc1 => ?_) (fun hc1 => ?_)
  · refine WP.seq ?_
    refine WP.region ?_
    refine OPS.val rfl rfl rfl (Ev.asI rfl) ?_
    refine OPS.nil ?_
    refine WP.ret ⟨_, rfl, ?_⟩
    have h1 : rangedB r = false := by simpa using hc1
    exact ⟨by rw [rideErr, if_pos h1]; rfl, H.below⟩
  have h1 : ¬ rangedB r = false := by simpa using hc1
  refine WP.seq ?_
  refine WP.region ?_
  refine OPS.val rfl rfl rfl ((by first | exact Ev.loadO 0 H rfl (agg_run rfl) (size_run rfl) (by first | assumption | rfl) rfl | exact Ev.loadO 1 H rfl (agg_run rfl) (size_run rfl) (by first | assumption | rfl) rfl | exact Ev.loadO 2 H rfl (agg_run rfl) (size_run rfl) (by first | assumption | rfl) rfl | exact Ev.loadO 3 H rfl (agg_run rfl) (size_run rfl) (by first | assumption | rfl) rfl | exact Ev.loadO 4 H rfl (agg_run rfl) (size_run rfl) (by first | assumption | rfl) rfl | exact Ev.loadO 5 H rfl (agg_run rfl) (size_run rfl) (by first | assumption | rfl) rfl | exact Ev.loadO 6 H rfl (agg_run rfl) (size_run rfl) (by first | assumption | rfl) rfl | (change Ev _ _ _ _ (Op.load 50 (Operand.tmp 1)) _; fail))) ?_
  refine OPS.call (d := some 9) rfl rfl rfl (EvC.func (fun_run rfl)) (rideJoined r w (hr.sh H)) ?_
  rintro _ w ⟨rfl, hb⟩
  refine ⟨_, rfl, ?_⟩
  replace H := H.toBelow hb; clear hb
  refine OPS.val rfl rfl rfl (Ev.not rfl) ?_
  refine OPS.val rfl rfl rfl (Ev.asB rfl) ?_
  refine OPS.nil ?_
  refine WP.cond rfl (fun hc3 => ?_) (fun hc3 => ?_)
  · refine WP.seq ?_
    refine WP.region ?_
    refine OPS.val rfl rfl rfl (Ev.asI rfl) ?_
    refine OPS.nil ?_
    refine WP.ret ⟨_, rfl, ?_⟩
    have h2 : joinedB r = false := by simpa using hc3
    exact ⟨by rw [rideErr, if_neg h1, if_pos h2]; rfl, H.below⟩
  have h2 : ¬ joinedB r = false := by simpa using hc3
  refine WP.seq ?_
  refine WP.region ?_
  refine OPS.val rfl rfl rfl ((by first | exact Ev.loadO 0 H rfl (agg_run rfl) (size_run rfl) (by first | assumption | rfl) rfl | exact Ev.loadO 1 H rfl (agg_run rfl) (size_run rfl) (by first | assumption | rfl) rfl | exact Ev.loadO 2 H rfl (agg_run rfl) (size_run rfl) (by first | assumption | rfl) rfl | exact Ev.loadO 3 H rfl (agg_run rfl) (size_run rfl) (by first | assumption | rfl) rfl | exact Ev.loadO 4 H rfl (agg_run rfl) (size_run rfl) (by first | assumption | rfl) rfl | exact Ev.loadO 5 H rfl (agg_run rfl) (size_run rfl) (by first | assumption | rfl) rfl | exact Ev.loadO 6 H rfl (agg_run rfl) (size_run rfl) (by first | assumption | rfl) rfl | (change Ev _ _ _ _ (Op.load 50 (Operand.tmp 1)) _; fail))) ?_
  refine OPS.call (d := some 13) rfl rfl rfl (EvC.func (fun_run rfl)) (rideOrdered r w (hr.sh H)) ?_
  rintro _ w ⟨rfl, hb⟩
  refine ⟨_, rfl, ?_⟩
  replace H := H.toBelow hb; clear hb
  refine OPS.val rfl rfl rfl (Ev.not rfl) ?_
  refine OPS.val rfl rfl rfl (Ev.asB rfl) ?_
  refine OPS.nil ?_
  refine WP.cond rfl (fun hc5 => ?_) (fun hc5 => ?_)
  · refine WP.seq ?_
    refine WP.region ?_
    refine OPS.val rfl rfl rfl (Ev.asI rfl) ?_
    refine OPS.nil ?_
    refine WP.ret ⟨_, rfl, ?_⟩
    have h3 : orderedB r = false := by simpa using hc5
    exact ⟨by rw [rideErr, if_neg h1, if_neg h2, if_pos h3]; rfl, H.below⟩
  have h3 : ¬ orderedB r = false := by simpa using hc5
  have hs : stateB r = ((opn && !(decide (el = 0) && decide (eh = 0))) || (opn != decide (wh = 3))) := by rw [hre]; rfl
  rw [hre] at H
  dsimp only [rideCells] at H
  refine WP.seq ?_
  refine WP.seq ?_
  refine WP.region ?_
  refine OPS.val rfl rfl rfl (Ev.fieldAddr (fld_run rfl) rfl) ?_
  refine OPS.val rfl rfl rfl (Ev.load1 (agg_run rfl) rfl (by first | exact H.ldL 0 rfl _ rfl | exact H.ldL 1 rfl _ rfl | exact H.ldL 2 rfl _ rfl | exact H.ldL 3 rfl _ rfl | exact H.ldL 4 rfl _ rfl | exact H.ldL 5 rfl _ rfl | exact H.ldL 6 rfl _ rfl | exact H.ldL 7 rfl _ rfl | exact H.ld0 (by assumption) | assumption | exact H.ldS (by assumption) (by assumption))) ?_
  refine OPS.val rfl rfl rfl (Ev.mvB rfl) ?_
  refine OPS.gval rfl rfl rfl rfl rfl (fun hg => Ev.fieldAddr (fld_run rfl) (by first | rfl | exact gvE hg rfl)) ?_
  refine OPS.gval rfl rfl rfl rfl rfl (fun hg => (by first | exact Ev.loadO 0 H rfl (agg_run rfl) (size_run rfl) (by first | assumption | rfl) rfl | exact Ev.loadO 1 H rfl (agg_run rfl) (size_run rfl) (by first | assumption | rfl) rfl | exact Ev.loadO 2 H rfl (agg_run rfl) (size_run rfl) (by first | assumption | rfl) rfl | exact Ev.loadO 3 H rfl (agg_run rfl) (size_run rfl) (by first | assumption | rfl) rfl | exact Ev.loadO 4 H rfl (agg_run rfl) (size_run rfl) (by first | assumption | rfl) rfl | exact Ev.loadO 5 H rfl (agg_run rfl) (size_run rfl) (by first | assumption | rfl) rfl | exact Ev.loadO 6 H rfl (agg_run rfl) (size_run rfl) (by first | assumption | rfl) rfl | exact Ev.loadN [_, _] (agg_run rfl) (size_run rfl) (by first | rfl | exact gvE hg rfl) ⟨H.ldL 0 rfl _ rfl, H.ldL 0 rfl _ rfl, trivial⟩ | exact Ev.loadN [_, _] (agg_run rfl) (size_run rfl) (by first | rfl | exact gvE hg rfl) ⟨H.ldL 1 rfl _ rfl, H.ldL 1 rfl _ rfl, trivial⟩ | exact Ev.loadN [_, _] (agg_run rfl) (size_run rfl) (by first | rfl | exact gvE hg rfl) ⟨H.ldL 2 rfl _ rfl, H.ldL 2 rfl _ rfl, trivial⟩ | exact Ev.loadN [_, _] (agg_run rfl) (size_run rfl) (by first | rfl | exact gvE hg rfl) ⟨H.ldL 3 rfl _ rfl, H.ldL 3 rfl _ rfl, trivial⟩ | exact Ev.loadN [_, _] (agg_run rfl) (size_run rfl) (by first | rfl | exact gvE hg rfl) ⟨H.ldL 4 rfl _ rfl, H.ldL 4 rfl _ rfl, trivial⟩ | (change Ev _ _ _ _ (Op.load 46 (Operand.tmp 19)) _; fail))) ?_
  refine OPS.gval rfl rfl rfl rfl rfl (fun hg => Ev.build (bld_46_ (e := fun _ => .int .i64 0))) ?_
  refine OPS.gval rfl rfl rfl rfl rfl (fun hg => Ev.neqA eqG46 (eqS46 _ _ _ _) (by first | rfl | exact gvE hg rfl) (by first | rfl | exact gvE hg rfl)) ?_
  refine OPS.val rfl rfl rfl ((by first | exact Ev.pickOr rfl rfl rfl | exact Ev.pickAnd rfl rfl rfl)) ?_
  refine OPS.val rfl rfl rfl (Ev.asB rfl) ?_
  refine OPS.nil ?_
  refine WP.cond rfl (fun hc7 => ?_) (fun hc7 => ?_)
  · refine WP.skip ?_
    refine WP.cond rfl (fun hc7 => ?_) (fun hc7 => ?_)
    · refine WP.seq ?_
      refine WP.region ?_
      refine OPS.val rfl rfl rfl (Ev.asI rfl) ?_
      refine OPS.nil ?_
      refine WP.ret ⟨_, rfl, ?_⟩
      exact ⟨by rw [rideErr, if_neg h1, if_neg h2, if_neg h3, if_pos (by rw [hs]; grind)]; rfl, H.below⟩
    refine WP.skip ?_
    refine WP.seq ?_
    refine WP.region ?_
    refine OPS.val rfl rfl rfl (Ev.asI rfl) ?_
    refine OPS.nil ?_
    refine WP.ret ⟨_, rfl, ?_⟩
    exact ⟨by rw [rideErr, if_neg h1, if_neg h2, if_neg h3, if_neg (by rw [hs]; grind)]; rfl, H.below⟩
  refine WP.region ?_
  refine OPS.val rfl rfl rfl (Ev.fieldAddr (fld_run rfl) rfl) ?_
  refine OPS.val rfl rfl rfl (Ev.load1 (agg_run rfl) rfl (by first | exact H.ldL 0 rfl _ rfl | exact H.ldL 1 rfl _ rfl | exact H.ldL 2 rfl _ rfl | exact H.ldL 3 rfl _ rfl | exact H.ldL 4 rfl _ rfl | exact H.ldL 5 rfl _ rfl | exact H.ldL 6 rfl _ rfl | exact H.ldL 7 rfl _ rfl | exact H.ld0 (by assumption) | assumption | exact H.ldS (by assumption) (by assumption))) ?_
  refine OPS.val rfl rfl rfl (Ev.fieldAddr (fld_run rfl) rfl) ?_
  refine OPS.val rfl rfl rfl (Ev.load1 (agg_run rfl) rfl (by first | exact H.ldL 0 rfl _ rfl | exact H.ldL 1 rfl _ rfl | exact H.ldL 2 rfl _ rfl | exact H.ldL 3 rfl _ rfl | exact H.ldL 4 rfl _ rfl | exact H.ldL 5 rfl _ rfl | exact H.ldL 6 rfl _ rfl | exact H.ldL 7 rfl _ rfl | exact H.ld0 (by assumption) | assumption | exact H.ldS (by assumption) (by assumption))) ?_
  refine OPS.val rfl rfl rfl (Ev.eql rfl rfl) ?_
  refine OPS.val rfl rfl rfl (Ev.neqB Try.runUnderlying4 rfl rfl) ?_
  refine OPS.val rfl rfl rfl (Ev.asB rfl) ?_
  refine OPS.nil ?_
  refine WP.cond rfl (fun hc8 => ?_) (fun hc8 => ?_)
  · refine WP.seq ?_
    refine WP.region ?_
    refine OPS.val rfl rfl rfl (Ev.asI rfl) ?_
    refine OPS.nil ?_
    refine WP.ret ⟨_, rfl, ?_⟩
    exact ⟨by rw [rideErr, if_neg h1, if_neg h2, if_neg h3, if_pos (by rw [hs]; grind)]; rfl, H.below⟩
  refine WP.skip ?_
  refine WP.seq ?_
  refine WP.region ?_
  refine OPS.val rfl rfl rfl (Ev.asI rfl) ?_
  refine OPS.nil ?_
  refine WP.ret ⟨_, rfl, ?_⟩
  exact ⟨by rw [rideErr, if_neg h1, if_neg h2, if_neg h3, if_neg (by rw [hs]; grind)]; rfl, H.below⟩
end Go.Proofs.Ytdlfadbdchjinaa
