/-
  Walks: the program's check of a ride, second part.
-/
import Derived.Test.YtjgdklhbegplfaaGreatP4
import Derived.DeepKeys4
set_option linter.all false
namespace Go.Proofs.YtjgdklhbegplfaaGreat.Wea
open Go Go.W Go.RowKit

theorem drop_empty {α : Type} {l : List α} {j : Nat} (h : j < l.length) : (l.drop (j + 1)).isEmpty = decide ((j : Int) = (l.length : Int) - 1) := by
  have e : (l.drop (j + 1)).length = l.length - (j + 1) := List.length_drop
  cases hd : l.drop (j + 1) with
  | nil => rw [hd] at e; simp at e ⊢; omega
  | cons a t => rw [hd] at e; simp at e ⊢; omega
set_option maxHeartbeats 1000000 in
theorem rideJoined (r : Ride) (w0 : World) (hr : RideAt w0 r) :
    Calls Tryz.prog 87 #[.agg (rideCells r).toArray] w0 fun e w' => e = .returned (.bool (joinedB r)) ∧ Below w0.heap.size w0 w' := by
  have H := SH.refl w0
  have hll := hr.ll
  have hpl := hr.pl
  obtain ⟨id, rider, sl, sh, el, eh, opn, ⟨LA, lc, ll⟩, ⟨PA, pc, pl⟩, fw, fp, wh, pp⟩ := r
  have hL := hr.legs
  simp only at hL hll hpl
  unfold maxLen at hll hpl
  have hje : joinedB ⟨id, rider, sl, sh, el, eh, opn, ⟨LA, lc, ll⟩, ⟨PA, pc, pl⟩, fw, fp, wh, pp⟩ = (decide (1 ≤ ll.length) && decide (ll.length ≤ 512) && decide (pl.length ≤ 512) && chainB sl sh ll el eh) := rfl
  refine Calls.ofWP Tryz.func87 rfl Tryz.results87 Tryz.ntmps87 rfl ?_
  refine WP.seq ?_
  refine WP.region ?_
  refine OPS.box rfl rfl rfl rfl (cA rfl) H ?_
  clear H; intro g1 w H
  refine OPS.val rfl rfl rfl (Ev.asB rfl) ?_
  refine OPS.nil ?_
  refine WP.seq ?_
  refine WP.seq ?_
  refine WP.region ?_
  refine OPS.val rfl rfl rfl (Ev.fieldAddr (fld_run rfl) rfl) ?_
  refine OPS.val rfl rfl rfl (Ev.load1 (agg_run rfl) rfl (by exact H.ldL 0 rfl _ rfl)) ?_
  refine OPS.val rfl rfl rfl (Ev.len (el_run rfl) rfl) ?_
  refine OPS.val rfl rfl rfl (Ev.lss rfl rfl) ?_
  refine OPS.val rfl rfl rfl (Ev.mvB rfl) ?_
  refine OPS.gval rfl rfl rfl rfl rfl (fun hg => Ev.fieldAddr (fld_run rfl) (by rfl)) ?_
  refine OPS.gval rfl rfl rfl rfl rfl (fun hg => Ev.load1 (agg_run rfl) (by exact gvE hg rfl) (by exact H.ldL 0 rfl _ rfl)) ?_
  refine OPS.gval rfl rfl rfl rfl rfl (fun hg => Ev.len (el_run rfl) (by exact gvE hg rfl)) ?_
  refine OPS.gval rfl rfl rfl rfl rfl (fun hg => Ev.gtr (by exact gvE hg rfl) (by rfl)) ?_
  refine OPS.val rfl rfl rfl ((by exact Ev.pickOr rfl rfl rfl)) ?_
  refine OPS.val rfl rfl rfl (Ev.mvB rfl) ?_
  refine OPS.gval rfl rfl rfl rfl rfl (fun hg => Ev.fieldAddr (fld_run rfl) (by rfl)) ?_
  refine OPS.gval rfl rfl rfl rfl rfl (fun hg => Ev.load1 (agg_run rfl) (by exact gvE hg rfl) (by exact H.ldL 0 rfl _ rfl)) ?_
  refine OPS.gval rfl rfl rfl rfl rfl (fun hg => Ev.len (el_run rfl) (by exact gvE hg rfl)) ?_
  refine OPS.gval rfl rfl rfl rfl rfl (fun hg => Ev.gtr (by exact gvE hg rfl) (by rfl)) ?_
  refine OPS.val rfl rfl rfl ((by exact Ev.pickOr rfl rfl rfl)) ?_
  refine OPS.nil ?_
  refine WP.cond rfl (fun hc1 => ?_) (fun hc1 => ?_)
  · refine WP.seq ?_
    refine WP.region ?_
    refine OPS.val rfl rfl rfl (Ev.asB rfl) ?_
    refine OPS.nil ?_
    refine WP.ret ⟨_, rfl, ?_⟩
    exact ⟨ret_b rfl (by rw [hje]; grind), H.below⟩
  have hh : (decide (1 ≤ ll.length) && decide (ll.length ≤ 512) && decide (pl.length ≤ 512)) = true := by grind
  rw [hh, Bool.true_and] at hje
  refine WP.skip ?_
  refine WP.seq ?_
  refine WP.region ?_
  refine OPS.val rfl rfl rfl (Ev.fieldAddr (fld_run rfl) rfl) ?_
  refine OPS.val rfl rfl rfl ((by exact Ev.loadN [_, _] (agg_run rfl) (size_run rfl) rfl ⟨H.ldL 0 rfl _ rfl, H.ldL 0 rfl _ rfl, trivial⟩)) ?_
  refine OPS.alloc rfl rfl rfl rfl (zero_run rfl) rfl H ?_
  clear H; intro g3 w H
  refine OPS.store 0 _ rfl rfl rfl (size_run rfl) rfl (cA rfl) rfl rfl H rfl (by simp) ?_
  clear H; intro w H; try simp only [List.set_cons_zero, List.set_cons_succ, putL, Nat.zero_add] at H
  refine OPS.nil ?_
  refine WP.seq ?_
  refine WP.seq ?_
  refine WP.region ?_
  refine OPS.val rfl rfl rfl (Ev.fieldAddr (fld_run rfl) rfl) ?_
  refine OPS.val rfl rfl rfl (Ev.load1 (agg_run rfl) rfl (by exact H.ldL 1 rfl _ rfl)) ?_
  refine OPS.val rfl rfl rfl (Ev.len (el_run rfl) rfl) ?_
  refine OPS.val rfl rfl rfl (Ev.mvI rfl) ?_
  refine OPS.nil ?_
  refine WP.block ?_
  refine WP.loop [2, 5, 27, 28, 29, 30, 31, 32, 33, 34, 35, 36, 37] (fun k e w' => ∃ (j : Nat) (a b : Int), j + k = ll.length ∧ e 27 = I j ∧ chainB sl sh ll el eh = chainB a b (ll.drop j) el eh ∧ SH w0 [] w' [⟨g3, 45, [I a, I b]⟩, ⟨g1, 51, rideCells ⟨id, rider, sl, sh, el, eh, opn, ⟨LA, lc, ll⟩, ⟨PA, pc, pl⟩, fw, fp, wh, pp⟩⟩]) (ll.length) (⟨0, sl, sh, by omega, rfl, rfl, H⟩) ?_
  clear H
  rintro k u w ⟨j, a, b, hk, h27, hall, H⟩
  refine WP.know (t := 27) h27 ?_
  refine WP.seq ?_
  refine WP.region ?_
  refine OPS.val rfl rfl rfl (Ev.lss rfl rfl) ?_
  refine OPS.nil ?_
  refine WP.seq ?_
  refine WP.cond rfl (fun hc5 => ?_) (fun hc5 => ?_)
  · have hlt : j < ll.length := by simpa using hc5
    obtain ⟨bl, o, rfl, hc⟩ := hL j hlt
    have hc' := cellsAt_sh H hc
    obtain ⟨x, hx⟩ : ∃ x, x = ll[j] := ⟨_, rfl⟩
    rw [drop_get hlt, ← hx, chainB] at hall
    rw [← hx] at hc hc'
    refine WP.skip ?_
    refine WP.seq ?_
    refine WP.block ?_
    refine WP.seq ?_
    refine WP.region ?_
    refine OPS.val rfl rfl rfl ((by exact Ev.indexAddr (el_run rfl) (size_run rfl) rfl rfl rfl (by omega))) ?_
    refine OPS.val rfl rfl rfl ((by (change Ev _ _ _ _ (Op.load 47 (Operand.tmp 29)) _; exact Ev.loadN (legCells x) (agg_run rfl) (size_run rfl) rfl hc'))) ?_
    refine OPS.alloc rfl rfl rfl rfl (zero_run rfl) rfl H ?_
    clear H; intro g5 w H
    refine OPS.store 0 _ rfl rfl rfl (size_run rfl) rfl (cA rfl) rfl rfl H rfl (by simp) ?_
    clear H; intro w H; try simp only [List.set_cons_zero, List.set_cons_succ, putL, Nat.zero_add] at H
    refine OPS.nil ?_
    refine WP.seq ?_
    refine WP.seq ?_
    unfold legCells at H
    refine WP.region ?_
    refine OPS.val rfl rfl rfl (Ev.fieldAddr (fld_run rfl) rfl) ?_
    refine OPS.val rfl rfl rfl ((by exact Ev.loadN [_, _] (agg_run rfl) (size_run rfl) rfl ⟨H.ldL 0 rfl _ rfl, H.ldL 0 rfl _ rfl, trivial⟩)) ?_
    refine OPS.val rfl rfl rfl ((by exact Ev.loadO 1 H rfl (agg_run rfl) (size_run rfl) (by rfl) rfl)) ?_
    refine OPS.val rfl rfl rfl (Ev.neqA eqG45 (eqS45 _ _ _ _) rfl rfl) ?_
    refine OPS.nil ?_
    refine WP.cond rfl (fun hc7 => ?_) (fun hc7 => ?_)
    · refine WP.seq ?_
      refine WP.region ?_
      refine OPS.val rfl rfl rfl (Ev.asB rfl) ?_
      refine OPS.nil ?_
      refine WP.ret ⟨_, rfl, ?_⟩
      exact ⟨ret_b rfl (by rw [hje, hall]; grind), H.below⟩
    refine WP.skip ?_
    refine WP.region ?_
    refine OPS.val rfl rfl rfl (Ev.fieldAddr (fld_run rfl) rfl) ?_
    refine OPS.val rfl rfl rfl ((by exact Ev.loadN [_, _] (agg_run rfl) (size_run rfl) rfl ⟨H.ldL 0 rfl _ rfl, H.ldL 0 rfl _ rfl, trivial⟩)) ?_
    refine OPS.store 1 _ rfl rfl rfl (size_run rfl) rfl (cA rfl) rfl rfl H rfl (by simp) ?_
    clear H; intro w H; try simp only [List.set_cons_zero, List.set_cons_succ, putL, Nat.zero_add] at H
    refine OPS.nil ?_
    refine WP.region ?_
    refine OPS.val rfl rfl rfl (Ev.add rfl rfl (by unfold fits; omega)) ?_
    refine OPS.val rfl rfl rfl (Ev.mvI rfl) ?_
    refine OPS.nil ?_
    exact ⟨(by repeat (first | exact Agree.refl _ _ | exact Agree.mix _ _ _ | refine Agree.upd rfl ?_ | refine Agree.mix2 rfl ?_)), k - 1, by omega, j + 1, x.tl, x.th, by omega, rfl, by rw [hall]; grind, H.drop (List.sublist_cons_self _ _)⟩
  refine WP.exit ?_
  refine XB.hit ?_
  refine WP.seq ?_
  refine WP.region ?_
  refine OPS.val rfl rfl rfl ((by exact Ev.loadO 0 H rfl (agg_run rfl) (size_run rfl) (by rfl) rfl)) ?_
  refine OPS.val rfl rfl rfl (Ev.fieldAddr (fld_run rfl) rfl) ?_
  refine OPS.val rfl rfl rfl ((by exact Ev.loadN [_, _] (agg_run rfl) (size_run rfl) rfl ⟨H.ldL 1 rfl _ rfl, H.ldL 1 rfl _ rfl, trivial⟩)) ?_
  refine OPS.val rfl rfl rfl (Ev.eqlA eqG45 (eqS45 _ _ _ _) rfl rfl) ?_
  refine OPS.val rfl rfl rfl (Ev.asB rfl) ?_
  refine OPS.nil ?_
  refine WP.ret ⟨_, rfl, ?_⟩
  have hj : j = ll.length := by simp at hc5; omega
  rw [hj, List.drop_length] at hall
  exact ⟨ret_b rfl (by rw [hje, hall]; rfl), H.below⟩
end Go.Proofs.YtjgdklhbegplfaaGreat.Wea

/-
  Walks: the program's check of a ride, third part.
-/
set_option linter.all false
namespace Go.Proofs.YtjgdklhbegplfaaGreat.Wea
open Go Go.W Go.RowKit

set_option maxHeartbeats 2000000 in
theorem rideOrdered (r : Ride) (w0 : World) (hr : RideAt w0 r) :
    Calls Tryz.prog 88 #[.agg (rideCells r).toArray] w0 fun e w' => e = .returned (.bool (orderedB r)) ∧ Below w0.heap.size w0 w' := by
  have H := SH.refl w0
  have hll := hr.ll
  have hpl := hr.pl
  obtain ⟨id, rider, sl, sh, el, eh, opn, ⟨LA, lc, ll⟩, ⟨PA, pc, pl⟩, fw, fp, wh, pp⟩ := r
  have hL := hr.legs
  have hP := hr.paus
  simp only at hL hP hll hpl
  unfold maxLen at hll hpl
  have hje : orderedB ⟨id, rider, sl, sh, el, eh, opn, ⟨LA, lc, ll⟩, ⟨PA, pc, pl⟩, fw, fp, wh, pp⟩ = (legsB opn ll && (pl.isEmpty || pauB opn el sl pl)) := rfl
  refine Calls.ofWP Tryz.func88 rfl Tryz.results88 Tryz.ntmps88 rfl ?_
  refine WP.seq ?_
  refine WP.region ?_
  refine OPS.box rfl rfl rfl rfl (cA rfl) H ?_
  clear H; intro g1 w H
  refine OPS.val rfl rfl rfl (Ev.asB rfl) ?_
  refine OPS.nil ?_
  refine WP.seq ?_
  refine WP.seq ?_
  refine WP.region ?_
  refine OPS.val rfl rfl rfl (Ev.fieldAddr (fld_run rfl) rfl) ?_
  refine OPS.val rfl rfl rfl (Ev.load1 (agg_run rfl) rfl (by exact H.ldL 0 rfl _ rfl)) ?_
  refine OPS.val rfl rfl rfl (Ev.len (el_run rfl) rfl) ?_
  refine OPS.val rfl rfl rfl (Ev.mvI rfl) ?_
  refine OPS.nil ?_
  refine WP.block ?_
  refine WP.loop [2, 3, 4, 11, 12, 13, 14, 15, 16, 17, 18, 19, 20, 21, 22, 23, 24, 25, 26, 27, 28, 29, 30, 31, 32, 33, 34, 35, 36] (fun k e w' => ∃ (j : Nat), j + k = ll.length ∧ e 11 = I j ∧ legsB opn ll = legsB opn (ll.drop j) ∧ SH w0 [] w' [⟨g1, 51, rideCells ⟨id, rider, sl, sh, el, eh, opn, ⟨LA, lc, ll⟩, ⟨PA, pc, pl⟩, fw, fp, wh, pp⟩⟩]) (ll.length) (⟨0, by omega, rfl, rfl, H⟩) ?_
  clear H
  rintro k u w ⟨j, hk, h11, hall, H⟩
  refine WP.know (t := 11) h11 ?_
  refine WP.seq ?_
  refine WP.region ?_
  refine OPS.val rfl rfl rfl (Ev.lss rfl rfl) ?_
  refine OPS.nil ?_
  refine WP.seq ?_
  refine WP.cond rfl (fun hc2 => ?_) (fun hc2 => ?_)
  · have hlt : j < ll.length := by simpa using hc2
    obtain ⟨bl, o, rfl, hc⟩ := hL j hlt
    have hc' := cellsAt_sh H hc
    have hde := drop_empty hlt
    obtain ⟨x, hx⟩ : ∃ x, x = ll[j] := ⟨_, rfl⟩
    rw [drop_get hlt, ← hx, legsB, hde] at hall
    rw [← hx] at hc hc'
    refine WP.skip ?_
    refine WP.seq ?_
    refine WP.block ?_
    refine WP.seq ?_
    refine WP.region ?_
    refine OPS.val rfl rfl rfl (Ev.mvI rfl) ?_
    refine OPS.val rfl rfl rfl ((by exact Ev.indexAddr (el_run rfl) (size_run rfl) rfl rfl rfl (by omega))) ?_
    refine OPS.val rfl rfl rfl ((by (change Ev _ _ _ _ (Op.load 47 (Operand.tmp 14)) _; exact Ev.loadN (legCells x) (agg_run rfl) (size_run rfl) rfl hc'))) ?_
    refine OPS.alloc rfl rfl rfl rfl (zero_run rfl) rfl H ?_
    clear H; intro g4 w H
    refine OPS.val rfl rfl rfl (Ev.asI rfl) ?_
    refine OPS.store 0 _ rfl rfl rfl (size_run rfl) rfl (cA rfl) rfl rfl H rfl (by simp) ?_
    clear H; intro w H; try simp only [List.set_cons_zero, List.set_cons_succ, putL, Nat.zero_add] at H
    refine OPS.nil ?_
    refine WP.seq ?_
    dsimp only [legCells, rideCells] at H
    refine WP.region ?_
    refine OPS.val rfl rfl rfl (Ev.fieldAddr (fld_run rfl) rfl) ?_
    refine OPS.val rfl rfl rfl (Ev.fieldAddr (fld_run rfl) rfl) ?_
    refine OPS.val rfl rfl rfl (Ev.load1 (agg_run rfl) rfl (by exact H.ldL 0 rfl _ rfl)) ?_
    refine OPS.val rfl rfl rfl (Ev.fieldAddr (fld_run rfl) rfl) ?_
    refine OPS.val rfl rfl rfl (Ev.fieldAddr (fld_run rfl) rfl) ?_
    refine OPS.val rfl rfl rfl (Ev.load1 (agg_run rfl) rfl (by exact H.ldL 0 rfl _ rfl)) ?_
    refine OPS.val rfl rfl rfl (Ev.gtr rfl rfl) ?_
    refine OPS.val rfl rfl rfl (Ev.mvB rfl) ?_
    refine OPS.gval rfl rfl rfl rfl rfl (fun hg => Ev.fieldAddr (fld_run rfl) (by rfl)) ?_
    refine OPS.gval rfl rfl rfl rfl rfl (fun hg => Ev.load1 (agg_run rfl) (by exact gvE hg rfl) (by exact H.ldL 1 rfl _ rfl)) ?_
    refine OPS.gval rfl rfl rfl rfl rfl (fun hg => Ev.mvB (by exact gvE hg rfl)) ?_
    refine OPS.gvalN rfl rfl (GB.g rfl) rfl rfl (fun hg => Ev.mvI (by rfl)) ?_
    refine OPS.gvalN rfl rfl (GB.g rfl) rfl rfl (fun hg => Ev.fieldAddr (fld_run rfl) (by rfl)) ?_
    refine OPS.gvalN rfl rfl (GB.g rfl) rfl rfl (fun hg => Ev.load1 (agg_run rfl) (by exact gvE hg rfl) (by exact H.ldL 1 rfl _ rfl)) ?_
    refine OPS.gvalN rfl rfl (GB.g rfl) rfl rfl (fun hg => Ev.len (el_run rfl) (by exact gvE hg rfl)) ?_
    refine OPS.gvalN rfl rfl (GB.g rfl) rfl rfl (fun hg => Ev.sub (by exact gvE hg rfl) (by rfl) (by unfold fits; omega)) ?_
    refine OPS.gvalN rfl rfl (GB.g rfl) rfl rfl (fun hg => Ev.eql (by exact gvE hg rfl) (by exact gvE hg rfl)) ?_
    refine OPS.gval rfl rfl rfl rfl rfl (fun hg => (by exact Ev.pickAnd2 (beqT hg) (gvE hg rfl) rfl rfl)) ?_
    refine OPS.gval rfl rfl rfl rfl rfl (fun hg => Ev.not (by exact gvE hg rfl)) ?_
    refine OPS.val rfl rfl rfl ((by exact Ev.pickAnd rfl rfl rfl)) ?_
    refine OPS.nil ?_
    refine WP.cond rfl (fun hc4 => ?_) (fun hc4 => ?_)
    · refine WP.seq ?_
      refine WP.region ?_
      refine OPS.val rfl rfl rfl (Ev.asB rfl) ?_
      refine OPS.nil ?_
      refine WP.ret ⟨_, rfl, ?_⟩
      exact ⟨ret_b rfl (by rw [hje, hall]; grind), H.below⟩
    refine WP.skip ?_
    refine WP.region ?_
    refine OPS.val rfl rfl rfl (Ev.add rfl rfl (by unfold fits; omega)) ?_
    refine OPS.val rfl rfl rfl (Ev.mvI rfl) ?_
    refine OPS.nil ?_
    exact ⟨(by repeat (first | exact Agree.refl _ _ | exact Agree.mix _ _ _ | refine Agree.upd rfl ?_ | refine Agree.mix2 rfl ?_)), k - 1, by omega, j + 1, by omega, rfl, by rw [hall]; grind, H.drop (List.sublist_cons_self _ _)⟩
  have hj : j = ll.length := by simp at hc2; omega
  rw [hj, List.drop_length, legsB] at hall
  rw [hall, Bool.true_and] at hje
  clear hall
  refine WP.exit ?_
  refine XB.hit ?_
  refine WP.seq ?_
  refine WP.region ?_
  refine OPS.val rfl rfl rfl (Ev.fieldAddr (fld_run rfl) rfl) ?_
  refine OPS.val rfl rfl rfl (Ev.fieldAddr (fld_run rfl) rfl) ?_
  refine OPS.val rfl rfl rfl (Ev.load1 (agg_run rfl) rfl (by exact H.ldL 0 rfl _ rfl)) ?_
  refine OPS.val rfl rfl rfl (Ev.asI rfl) ?_
  refine OPS.nil ?_
  refine WP.seq ?_
  refine WP.seq ?_
  refine WP.region ?_
  refine OPS.val rfl rfl rfl (Ev.fieldAddr (fld_run rfl) rfl) ?_
  refine OPS.val rfl rfl rfl (Ev.load1 (agg_run rfl) rfl (by exact H.ldL 0 rfl _ rfl)) ?_
  refine OPS.val rfl rfl rfl (Ev.len (el_run rfl) rfl) ?_
  refine OPS.val rfl rfl rfl (Ev.mvI rfl) ?_
  refine OPS.nil ?_
  refine WP.block ?_
  refine WP.loop [2, 5, 6, 7, 43, 44, 45, 46, 47, 48, 49, 50, 51, 52, 53, 54, 55, 56, 57, 58, 59, 60, 61, 62, 63, 64, 65, 66, 67, 68, 69, 70, 71, 72, 73, 74, 75, 76, 77, 78, 79, 80] (fun k e w' => ∃ (j : Nat) (last : Int), j + k = pl.length ∧ e 43 = I j ∧ e 5 = I last ∧ pauB opn el sl pl = pauB opn el last (pl.drop j) ∧ SH w0 [] w' [⟨g1, 51, rideCells ⟨id, rider, sl, sh, el, eh, opn, ⟨LA, lc, ll⟩, ⟨PA, pc, pl⟩, fw, fp, wh, pp⟩⟩]) (pl.length) (⟨0, sl, by omega, rfl, rfl, rfl, H⟩) ?_
  clear H
  rintro k u w ⟨j, last, hk, h43, h5, hall, H⟩
  refine WP.know (t := 43) h43 (WP.know (t := 5) h5 ?_)
  refine WP.seq ?_
  refine WP.region ?_
  refine OPS.val rfl rfl rfl (Ev.lss rfl rfl) ?_
  refine OPS.nil ?_
  refine WP.seq ?_
  refine WP.cond rfl (fun hc9 => ?_) (fun hc9 => ?_)
  · have hlt : j < pl.length := by simpa using hc9
    obtain ⟨bl, o, rfl, hc⟩ := hP j hlt
    have hc' := cellsAt_sh H hc
    have hde := drop_empty hlt
    have hne : pl.isEmpty = false := by cases pl with | nil => simp at hlt | cons a t => rfl
    obtain ⟨x, hx⟩ : ∃ x, x = pl[j] := ⟨_, rfl⟩
    rw [drop_get hlt, ← hx, pauB, hde] at hall
    rw [← hx] at hc hc'
    rw [hne, Bool.false_or] at hje
    refine WP.skip ?_
    refine WP.seq ?_
    refine WP.block ?_
    refine WP.seq ?_
    refine WP.region ?_
    refine OPS.val rfl rfl rfl (Ev.mvI rfl) ?_
    refine OPS.val rfl rfl rfl ((by exact Ev.indexAddr (el_run rfl) (size_run rfl) rfl rfl rfl (by omega))) ?_
    refine OPS.val rfl rfl rfl ((by (change Ev _ _ _ _ (Op.load 204 (Operand.tmp 46)) _; exact Ev.loadN (pauCells x) (agg_run rfl) (size_run rfl) rfl hc'))) ?_
    refine OPS.alloc rfl rfl rfl rfl (zero_run rfl) rfl H ?_
    clear H; intro g7 w H
    refine OPS.val rfl rfl rfl (Ev.asI rfl) ?_
    refine OPS.store 0 _ rfl rfl rfl (size_run rfl) rfl (cA rfl) rfl rfl H rfl (by simp) ?_
    clear H; intro w H; try simp only [List.set_cons_zero, List.set_cons_succ, putL, Nat.zero_add] at H
    refine OPS.nil ?_
    refine WP.seq ?_
    refine WP.seq ?_
    dsimp only [pauCells, rideCells] at H
    refine WP.region ?_
    refine OPS.val rfl rfl rfl (Ev.fieldAddr (fld_run rfl) rfl) ?_
    refine OPS.val rfl rfl rfl (Ev.fieldAddr (fld_run rfl) rfl) ?_
    refine OPS.val rfl rfl rfl (Ev.load1 (agg_run rfl) rfl (by exact H.ldL 0 rfl _ rfl)) ?_
    refine OPS.val rfl rfl rfl (Ev.mvI rfl) ?_
    refine OPS.val rfl rfl rfl (Ev.lss rfl rfl) ?_
    refine OPS.nil ?_
    refine WP.cond rfl (fun hc11 => ?_) (fun hc11 => ?_)
    · refine WP.seq ?_
      refine WP.region ?_
      refine OPS.val rfl rfl rfl (Ev.asB rfl) ?_
      refine OPS.nil ?_
      refine WP.ret ⟨_, rfl, ?_⟩
      exact ⟨ret_b rfl (by rw [hje, hall]; grind), H.below⟩
    refine WP.skip ?_
    refine WP.seq ?_
    refine WP.region ?_
    refine OPS.val rfl rfl rfl (Ev.fieldAddr (fld_run rfl) rfl) ?_
    refine OPS.val rfl rfl rfl (Ev.fieldAddr (fld_run rfl) rfl) ?_
    refine OPS.val rfl rfl rfl (Ev.load1 (agg_run rfl) rfl (by exact H.ldL 0 rfl _ rfl)) ?_
    refine OPS.val rfl rfl rfl (Ev.asI rfl) ?_
    refine OPS.nil ?_
    refine WP.seq ?_
    refine WP.seq ?_
    refine WP.region ?_
    refine OPS.val rfl rfl rfl (Ev.fieldAddr (fld_run rfl) rfl) ?_
    refine OPS.val rfl rfl rfl (Ev.load1 (agg_run rfl) rfl (by exact H.ldL 1 rfl _ rfl)) ?_
    refine OPS.val rfl rfl rfl (Ev.mvB rfl) ?_
    refine OPS.gval rfl rfl rfl rfl rfl (fun hg => Ev.mvI (by rfl)) ?_
    refine OPS.gval rfl rfl rfl rfl rfl (fun hg => Ev.fieldAddr (fld_run rfl) (by rfl)) ?_
    refine OPS.gval rfl rfl rfl rfl rfl (fun hg => Ev.load1 (agg_run rfl) (by exact gvE hg rfl) (by exact H.ldL 1 rfl _ rfl)) ?_
    refine OPS.gval rfl rfl rfl rfl rfl (fun hg => Ev.len (el_run rfl) (by exact gvE hg rfl)) ?_
    refine OPS.gval rfl rfl rfl rfl rfl (fun hg => Ev.sub (by exact gvE hg rfl) (by rfl) (by unfold fits; omega)) ?_
    refine OPS.gval rfl rfl rfl rfl rfl (fun hg => Ev.eql (by exact gvE hg rfl) (by exact gvE hg rfl)) ?_
    refine OPS.val rfl rfl rfl ((by exact Ev.pickAnd rfl rfl rfl)) ?_
    refine OPS.val rfl rfl rfl (Ev.mvB rfl) ?_
    refine OPS.gval rfl rfl rfl rfl rfl (fun hg => Ev.fieldAddr (fld_run rfl) (by rfl)) ?_
    refine OPS.gval rfl rfl rfl rfl rfl (fun hg => Ev.fieldAddr (fld_run rfl) (by exact gvE hg rfl)) ?_
    refine OPS.gval rfl rfl rfl rfl rfl (fun hg => Ev.load1 (agg_run rfl) (by exact gvE hg rfl) (by exact H.ldL 0 rfl _ rfl)) ?_
    refine OPS.gval rfl rfl rfl rfl rfl (fun hg => Ev.eql (by exact gvE hg rfl) (by rfl)) ?_
    refine OPS.val rfl rfl rfl ((by exact Ev.pickAnd rfl rfl rfl)) ?_
    refine OPS.nil ?_
    refine WP.cond rfl (fun hc14 => ?_) (fun hc14 => ?_)
    · refine WP.seq ?_
      refine WP.region ?_
      refine OPS.val rfl rfl rfl (Ev.asB rfl) ?_
      refine OPS.nil ?_
      refine WP.ret ⟨_, rfl, ?_⟩
      exact ⟨ret_b rfl (by rw [hje, hall]; grind), H.below⟩
    refine WP.skip ?_
    refine WP.seq ?_
    refine WP.seq ?_
    refine WP.region ?_
    refine OPS.val rfl rfl rfl (Ev.fieldAddr (fld_run rfl) rfl) ?_
    refine OPS.val rfl rfl rfl (Ev.fieldAddr (fld_run rfl) rfl) ?_
    refine OPS.val rfl rfl rfl (Ev.load1 (agg_run rfl) rfl (by exact H.ldL 0 rfl _ rfl)) ?_
    refine OPS.val rfl rfl rfl (Ev.mvI rfl) ?_
    refine OPS.val rfl rfl rfl (Ev.lss rfl rfl) ?_
    refine OPS.nil ?_
    refine WP.cond rfl (fun hc16 => ?_) (fun hc16 => ?_)
    · refine WP.seq ?_
      refine WP.region ?_
      refine OPS.val rfl rfl rfl (Ev.asB rfl) ?_
      refine OPS.nil ?_
      refine WP.ret ⟨_, rfl, ?_⟩
      exact ⟨ret_b rfl (by rw [hje, hall]; grind), H.below⟩
    refine WP.skip ?_
    refine WP.region ?_
    refine OPS.val rfl rfl rfl (Ev.fieldAddr (fld_run rfl) rfl) ?_
    refine OPS.val rfl rfl rfl (Ev.fieldAddr (fld_run rfl) rfl) ?_
    refine OPS.val rfl rfl rfl (Ev.load1 (agg_run rfl) rfl (by exact H.ldL 0 rfl _ rfl)) ?_
    refine OPS.val rfl rfl rfl (Ev.asI rfl) ?_
    refine OPS.nil ?_
    refine WP.region ?_
    refine OPS.val rfl rfl rfl (Ev.add rfl rfl (by unfold fits; omega)) ?_
    refine OPS.val rfl rfl rfl (Ev.mvI rfl) ?_
    refine OPS.nil ?_
    exact ⟨(by repeat (first | exact Agree.refl _ _ | exact Agree.mix _ _ _ | refine Agree.upd rfl ?_ | refine Agree.mix2 rfl ?_)), k - 1, by omega, j + 1, x.tl, by omega, rfl, rfl, by rw [hall]; grind, H.drop (List.sublist_cons_self _ _)⟩
  have hj : j = pl.length := by simp at hc9; omega
  rw [hj, List.drop_length, pauB] at hall
  have hie : pl.isEmpty = decide ((pl.length : Int) = 0) := by cases pl with | nil => rfl | cons a t => simp; omega
  dsimp only [rideCells] at H
  refine WP.exit ?_
  refine XB.hit ?_
  refine WP.seq ?_
  refine WP.region ?_
  refine OPS.val rfl rfl rfl (Ev.fieldAddr (fld_run rfl) rfl) ?_
  refine OPS.val rfl rfl rfl (Ev.load1 (agg_run rfl) rfl (by exact H.ldL 0 rfl _ rfl)) ?_
  refine OPS.val rfl rfl rfl (Ev.mvB rfl) ?_
  refine OPS.gval rfl rfl rfl rfl rfl (fun hg => Ev.fieldAddr (fld_run rfl) (by rfl)) ?_
  refine OPS.gval rfl rfl rfl rfl rfl (fun hg => Ev.load1 (agg_run rfl) (by exact gvE hg rfl) (by exact H.ldL 0 rfl _ rfl)) ?_
  refine OPS.gval rfl rfl rfl rfl rfl (fun hg => Ev.len (el_run rfl) (by exact gvE hg rfl)) ?_
  refine OPS.gval rfl rfl rfl rfl rfl (fun hg => Ev.eql (by exact gvE hg rfl) (by rfl)) ?_
  refine OPS.val rfl rfl rfl ((by exact Ev.pickOr rfl rfl rfl)) ?_
  refine OPS.val rfl rfl rfl (Ev.mvB rfl) ?_
  refine OPS.gval rfl rfl rfl rfl rfl (fun hg => Ev.mvI (by rfl)) ?_
  refine OPS.gval rfl rfl rfl rfl rfl (fun hg => Ev.fieldAddr (fld_run rfl) (by rfl)) ?_
  refine OPS.gval rfl rfl rfl rfl rfl (fun hg => Ev.fieldAddr (fld_run rfl) (by exact gvE hg rfl)) ?_
  refine OPS.gval rfl rfl rfl rfl rfl (fun hg => Ev.load1 (agg_run rfl) (by exact gvE hg rfl) (by exact H.ldL 0 rfl _ rfl)) ?_
  refine OPS.gval rfl rfl rfl rfl rfl (fun hg => Ev.leq (by exact gvE hg rfl) (by exact gvE hg rfl)) ?_
  refine OPS.val rfl rfl rfl ((by exact Ev.pickOr rfl rfl rfl)) ?_
  refine OPS.val rfl rfl rfl (Ev.asB rfl) ?_
  refine OPS.nil ?_
  refine WP.ret ⟨_, rfl, ?_⟩
  exact ⟨ret_b rfl (by rw [hje, hall, hie]; grind), H.below⟩
theorem rideCheck (r : Ride) (w0 : World) (hr : RideAt w0 r) :
    Calls Tryz.prog 50 #[.agg (rideCells r).toArray] w0 fun e w' => e = .returned (I (rideErr r)) ∧ Below w0.heap.size w0 w' := by
  have H := SH.refl w0
  obtain ⟨id, rider, sl, sh, el, eh, opn, ⟨LA, lc, ll⟩, ⟨PA, pc, pl⟩, fw, fp, wh, pp⟩ := r
  obtain ⟨r, hre⟩ : ∃ r : Ride, r = ⟨id, rider, sl, sh, el, eh, opn, ⟨LA, lc, ll⟩, ⟨PA, pc, pl⟩, fw, fp, wh, pp⟩ := ⟨_, rfl⟩
  rw [← hre] at hr ⊢
  refine Calls.ofWP Tryz.func50 rfl Tryz.results50 Tryz.ntmps50 rfl ?_
  refine WP.seq ?_
  refine WP.region ?_
  refine OPS.box rfl rfl rfl rfl (cA rfl) H ?_
  clear H; intro g1 w H
  refine OPS.val rfl rfl rfl (Ev.asI rfl) ?_
  refine OPS.nil ?_
  refine WP.seq ?_
  refine WP.block ?_
  refine WP.seq ?_
  refine WP.region ?_
  refine OPS.val rfl rfl rfl ((by exact Ev.loadO 0 H rfl (agg_run rfl) (size_run rfl) (by rfl) rfl)) ?_
  refine OPS.call (d := some 5) rfl rfl rfl (EvC.func (fun_run rfl)) (rideRanged r w (hr.sh H)) ?_
  rintro _ w ⟨rfl, hb⟩
  refine ⟨_, rfl, ?_⟩
  replace H := H.toBelow hb; clear hb
  refine OPS.val rfl rfl rfl (Ev.not rfl) ?_
  refine OPS.val rfl rfl rfl (Ev.asB rfl) ?_
  refine OPS.nil ?_
  refine WP.cond rfl (fun hc1 => ?_) (fun hc1 => ?_)
  · refine WP.seq ?_
    refine WP.region ?_
    refine OPS.val rfl rfl rfl (Ev.asI rfl) ?_
    refine OPS.nil ?_
    refine WP.ret ⟨_, rfl, ?_⟩
    have h1 : rangedB r = false := by simpa using hc1
    exact ⟨by rw [rideErr, if_pos h1]; rfl, H.below⟩
  have h1 : ¬ rangedB r = false := by simpa using hc1
  refine WP.seq ?_
  refine WP.region ?_
  refine OPS.val rfl rfl rfl ((by exact Ev.loadO 0 H rfl (agg_run rfl) (size_run rfl) (by rfl) rfl)) ?_
  refine OPS.call (d := some 9) rfl rfl rfl (EvC.func (fun_run rfl)) (rideJoined r w (hr.sh H)) ?_
  rintro _ w ⟨rfl, hb⟩
  refine ⟨_, rfl, ?_⟩
  replace H := H.toBelow hb; clear hb
  refine OPS.val rfl rfl rfl (Ev.not rfl) ?_
  refine OPS.val rfl rfl rfl (Ev.asB rfl) ?_
  refine OPS.nil ?_
  refine WP.cond rfl (fun hc3 => ?_) (fun hc3 => ?_)
  · refine WP.seq ?_
    refine WP.region ?_
    refine OPS.val rfl rfl rfl (Ev.asI rfl) ?_
    refine OPS.nil ?_
    refine WP.ret ⟨_, rfl, ?_⟩
    have h2 : joinedB r = false := by simpa using hc3
    exact ⟨by rw [rideErr, if_neg h1, if_pos h2]; rfl, H.below⟩
  have h2 : ¬ joinedB r = false := by simpa using hc3
  refine WP.seq ?_
  refine WP.region ?_
  refine OPS.val rfl rfl rfl ((by exact Ev.loadO 0 H rfl (agg_run rfl) (size_run rfl) (by rfl) rfl)) ?_
  refine OPS.call (d := some 13) rfl rfl rfl (EvC.func (fun_run rfl)) (rideOrdered r w (hr.sh H)) ?_
  rintro _ w ⟨rfl, hb⟩
  refine ⟨_, rfl, ?_⟩
  replace H := H.toBelow hb; clear hb
  refine OPS.val rfl rfl rfl (Ev.not rfl) ?_
  refine OPS.val rfl rfl rfl (Ev.asB rfl) ?_
  refine OPS.nil ?_
  refine WP.cond rfl (fun hc5 => ?_) (fun hc5 => ?_)
  · refine WP.seq ?_
    refine WP.region ?_
    refine OPS.val rfl rfl rfl (Ev.asI rfl) ?_
    refine OPS.nil ?_
    refine WP.ret ⟨_, rfl, ?_⟩
    have h3 : orderedB r = false := by simpa using hc5
    exact ⟨by rw [rideErr, if_neg h1, if_neg h2, if_pos h3]; rfl, H.below⟩
  have h3 : ¬ orderedB r = false := by simpa using hc5
  have hs : stateB r = ((opn && !(decide (el = 0) && decide (eh = 0))) || (opn != decide (wh = 3))) := by rw [hre]; rfl
  rw [hre] at H
  dsimp only [rideCells] at H
  refine WP.seq ?_
  refine WP.seq ?_
  refine WP.region ?_
  refine OPS.val rfl rfl rfl (Ev.fieldAddr (fld_run rfl) rfl) ?_
  refine OPS.val rfl rfl rfl (Ev.load1 (agg_run rfl) rfl (by exact H.ldL 0 rfl _ rfl)) ?_
  refine OPS.val rfl rfl rfl (Ev.mvB rfl) ?_
  refine OPS.gval rfl rfl rfl rfl rfl (fun hg => Ev.fieldAddr (fld_run rfl) (by rfl)) ?_
  refine OPS.gval rfl rfl rfl rfl rfl (fun hg => (by exact Ev.loadN [_, _] (agg_run rfl) (size_run rfl) (by exact gvE hg rfl) ⟨H.ldL 0 rfl _ rfl, H.ldL 0 rfl _ rfl, trivial⟩)) ?_
  refine OPS.gval rfl rfl rfl rfl rfl (fun hg => Ev.build (bld_45_ (e := fun _ => .int .i64 0))) ?_
  refine OPS.gval rfl rfl rfl rfl rfl (fun hg => Ev.neqA eqG45 (eqS45 _ _ _ _) (by exact gvE hg rfl) (by exact gvE hg rfl)) ?_
  refine OPS.val rfl rfl rfl ((by exact Ev.pickAnd rfl rfl rfl)) ?_
  refine OPS.val rfl rfl rfl (Ev.asB rfl) ?_
  refine OPS.nil ?_
  refine WP.cond rfl (fun hc7 => ?_) (fun hc7 => ?_)
  · refine WP.skip ?_
    refine WP.cond rfl (fun hc7 => ?_) (fun hc7 => ?_)
    · refine WP.seq ?_
      refine WP.region ?_
      refine OPS.val rfl rfl rfl (Ev.asI rfl) ?_
      refine OPS.nil ?_
      refine WP.ret ⟨_, rfl, ?_⟩
      exact ⟨by rw [rideErr, if_neg h1, if_neg h2, if_neg h3, if_pos (by rw [hs]; grind)]; rfl, H.below⟩
    refine WP.skip ?_
    refine WP.seq ?_
    refine WP.region ?_
    refine OPS.val rfl rfl rfl (Ev.asI rfl) ?_
    refine OPS.nil ?_
    refine WP.ret ⟨_, rfl, ?_⟩
    exact ⟨by rw [rideErr, if_neg h1, if_neg h2, if_neg h3, if_neg (by rw [hs]; grind)]; rfl, H.below⟩
  refine WP.region ?_
  refine OPS.val rfl rfl rfl (Ev.fieldAddr (fld_run rfl) rfl) ?_
  refine OPS.val rfl rfl rfl (Ev.load1 (agg_run rfl) rfl (by exact H.ldL 0 rfl _ rfl)) ?_
  refine OPS.val rfl rfl rfl (Ev.fieldAddr (fld_run rfl) rfl) ?_
  refine OPS.val rfl rfl rfl (Ev.load1 (agg_run rfl) rfl (by exact H.ldL 0 rfl _ rfl)) ?_
  refine OPS.val rfl rfl rfl (Ev.eql rfl rfl) ?_
  refine OPS.val rfl rfl rfl (Ev.neqB Tryz.runUnderlying4 rfl rfl) ?_
  refine OPS.val rfl rfl rfl (Ev.asB rfl) ?_
  refine OPS.nil ?_
  refine WP.cond rfl (fun hc8 => ?_) (fun hc8 => ?_)
  · refine WP.seq ?_
    refine WP.region ?_
    refine OPS.val rfl rfl rfl (Ev.asI rfl) ?_
    refine OPS.nil ?_
    refine WP.ret ⟨_, rfl, ?_⟩
    exact ⟨by rw [rideErr, if_neg h1, if_neg h2, if_neg h3, if_pos (by rw [hs]; grind)]; rfl, H.below⟩
  refine WP.skip ?_
  refine WP.seq ?_
  refine WP.region ?_
  refine OPS.val rfl rfl rfl (Ev.asI rfl) ?_
  refine OPS.nil ?_
  refine WP.ret ⟨_, rfl, ?_⟩
  exact ⟨by rw [rideErr, if_neg h1, if_neg h2, if_neg h3, if_neg (by rw [hs]; grind)]; rfl, H.below⟩
end Go.Proofs.YtjgdklhbegplfaaGreat.Wea

/-
  Walks: the checks of fare: the joined lists of fees, the rides, the verdicts.
-/
set_option linter.all false
namespace Go.W
theorem Ev.cap {P : Program} {e : Env} {w : World} {ty t : TypeId} {x : Operand} {el n cap : Nat} {A : Option Addr} (hU : ∀ w, (underlying t).run P w = .ok (.slice el) w) (hx : ev e x = .slice A n cap) :
    Ev P e w ty (.call { callee := .builtin .cap, args := #[x], argTypes := #[t] }) (.int .i64 cap) :=
  ⟨fun w' _ o ho _ => by
    unfold execOp; rw [ho]
    simp [resolve, invoke, builtin, Builtin.cap_, hx, hU, goInt]⟩
end Go.W
namespace Go.Proofs.YtjgdklhbegplfaaGreat
open Go Go.W Go.RowKit

theorem slGrow0 (w0 : World) : Calls Tryz.prog 85 #[S0, I 0] w0 fun e w' => e = .returned S0 ∧ Below w0.heap.size w0 w' := by
  have H := SH.refl w0
  refine Calls.ofWP Tryz.func85 rfl Tryz.results85 Tryz.ntmps85 rfl ?_
  refine WP.seq ?_
  refine WP.region ?_
  refine OPS.val rfl rfl rfl (Ev.asS rfl) ?_
  refine OPS.nil ?_
  refine WP.seq ?_
  refine WP.seq ?_
  refine WP.region ?_
  refine OPS.val rfl rfl rfl (Ev.mvI rfl) ?_
  refine OPS.val rfl rfl rfl (Ev.lss rfl rfl) ?_
  refine OPS.nil ?_
  refine WP.cond rfl (fun hc1 => ?_) (fun hc1 => ?_)
  · cases hc1
  refine WP.skip ?_
  refine WP.seq ?_
  refine WP.seq ?_
  refine WP.region ?_
  refine OPS.val rfl rfl rfl (Ev.mvI rfl) ?_
  refine OPS.val rfl rfl rfl (Ev.mvS rfl) ?_
  refine OPS.val rfl rfl rfl (Ev.cap (el_run rfl) rfl) ?_
  refine OPS.val rfl rfl rfl (Ev.mvS rfl) ?_
  refine OPS.val rfl rfl rfl (Ev.len (el_run rfl) rfl) ?_
  refine OPS.val rfl rfl rfl (Ev.sub rfl rfl (by unfold fits; omega)) ?_
  refine OPS.val rfl rfl rfl (Ev.sub rfl rfl (by unfold fits; omega)) ?_
  refine OPS.val rfl rfl rfl (Ev.asI rfl) ?_
  refine OPS.nil ?_
  refine WP.seq ?_
  refine WP.region ?_
  refine OPS.val rfl rfl rfl (Ev.mvI rfl) ?_
  refine OPS.val rfl rfl rfl (Ev.gtr rfl rfl) ?_
  refine OPS.nil ?_
  refine WP.cond rfl (fun hc4 => ?_) (fun hc4 => ?_)
  · cases hc4
  refine WP.skip ?_
  refine WP.seq ?_
  refine WP.region ?_
  refine OPS.val rfl rfl rfl (Ev.mvS rfl) ?_
  refine OPS.val rfl rfl rfl (Ev.asS rfl) ?_
  refine OPS.nil ?_
  refine WP.ret ⟨_, rfl, ?_⟩
  exact ⟨rfl, H.below⟩
theorem slConcat0 (b : Nat) (w0 : World) (hz : cellsAt w0 b 0 [S0, S0]) : Calls Tryz.prog 48 #[.slice (some ⟨b, 0, none⟩) 2 2] w0 fun e w' => ∃ S c, e = .returned (.slice S 0 c) ∧ Below w0.heap.size w0 w' := by
  have H := SH.refl w0
  have hat : ∀ j : Nat, j < 2 → w0.cell? ⟨b, 0 + j, none⟩ = some S0 := fun j hj => by
    rcases (show j = 0 ∨ j = 1 by omega) with rfl | rfl
    · exact hz.1
    · exact hz.2.1
  refine Calls.ofWP Tryz.func48 rfl Tryz.results48 Tryz.ntmps48 rfl ?_
  refine WP.seq ?_
  refine WP.region ?_
  refine OPS.val rfl rfl rfl (Ev.asS rfl) ?_
  refine OPS.nil ?_
  refine WP.seq ?_
  refine WP.region ?_
  refine OPS.val rfl rfl rfl (Ev.asI rfl) ?_
  refine OPS.nil ?_
  refine WP.seq ?_
  refine WP.seq ?_
  refine WP.region ?_
  refine OPS.val rfl rfl rfl (Ev.mvS rfl) ?_
  refine OPS.val rfl rfl rfl (Ev.len (el_run rfl) rfl) ?_
  refine OPS.val rfl rfl rfl (Ev.mvI rfl) ?_
  refine OPS.nil ?_
  refine WP.block ?_
  refine WP.loop [3, 5, 11, 12, 13, 14, 15, 16, 17, 18, 19, 20, 21, 22] (fun k e w' => ∃ j : Nat, j + k = 2 ∧ e 11 = I j ∧ e 3 = I 0 ∧ SH w0 [] w' []) (2) (⟨0, rfl, rfl, rfl, H⟩) ?_
  clear H
  rintro k u w ⟨j, hk, h11, h3, H⟩
  refine WP.know (t := 11) h11 (WP.know (t := 3) h3 ?_)
  refine WP.seq ?_
  refine WP.region ?_
  refine OPS.val rfl rfl rfl (Ev.lss rfl rfl) ?_
  refine OPS.nil ?_
  refine WP.seq ?_
  refine WP.cond rfl (fun hc3 => ?_) (fun hc3 => ?_)
  · have hlt : j < 2 := by simp at hc3; omega
    have hzz := hat j hlt
    refine WP.skip ?_
    refine WP.seq ?_
    refine WP.block ?_
    refine WP.seq ?_
    refine WP.region ?_
    refine OPS.val rfl rfl rfl ((by exact Ev.indexAddr1 (el_run rfl) (size_run rfl) rfl rfl rfl (by omega))) ?_
    refine OPS.val rfl rfl rfl (Ev.load1 (agg_run rfl) rfl (H.ld0 hzz)) ?_
    refine OPS.val rfl rfl rfl (Ev.asS rfl) ?_
    refine OPS.nil ?_
    refine WP.seq ?_
    refine WP.region ?_
    refine OPS.val rfl rfl rfl (Ev.mvI rfl) ?_
    refine OPS.val rfl rfl rfl (Ev.mvS rfl) ?_
    refine OPS.val rfl rfl rfl (Ev.len (el_run rfl) rfl) ?_
    refine OPS.val rfl rfl rfl (Ev.add rfl rfl (by unfold fits; omega)) ?_
    refine OPS.val rfl rfl rfl (Ev.asI rfl) ?_
    refine OPS.nil ?_
    refine WP.seq ?_
    refine WP.region ?_
    refine OPS.val rfl rfl rfl (Ev.mvI rfl) ?_
    refine OPS.val rfl rfl rfl (Ev.lss rfl rfl) ?_
    refine OPS.nil ?_
    refine WP.cond rfl (fun hc6 => ?_) (fun hc6 => ?_)
    · cases hc6
    refine WP.skip ?_
    refine WP.region ?_
    refine OPS.val rfl rfl rfl (Ev.add rfl rfl (by unfold fits; omega)) ?_
    refine OPS.val rfl rfl rfl (Ev.mvI rfl) ?_
    refine OPS.nil ?_
    exact ⟨(by repeat (first | exact Agree.refl _ _ | exact Agree.mix _ _ _ | refine Agree.upd rfl ?_ | refine Agree.mix2 rfl ?_)), k - 1, by omega, j + 1, by omega, rfl, rfl, H⟩
  refine WP.exit ?_
  refine XB.hit ?_
  refine WP.seq ?_
  refine WP.region ?_
  refine OPS.val rfl rfl rfl (Ev.mvI rfl) ?_
  refine OPS.call (d := some 24) rfl rfl rfl (EvC.func (fun_run rfl)) (slGrow0 w) ?_
  rintro _ w ⟨rfl, hb⟩
  refine ⟨_, rfl, ?_⟩
  replace H := H.toBelow hb; clear hb
  refine OPS.val rfl rfl rfl (Ev.asS rfl) ?_
  refine OPS.nil ?_
  refine WP.seq ?_
  refine WP.seq ?_
  refine WP.region ?_
  refine OPS.val rfl rfl rfl (Ev.mvS rfl) ?_
  refine OPS.val rfl rfl rfl (Ev.len (el_run rfl) rfl) ?_
  refine OPS.val rfl rfl rfl (Ev.mvI rfl) ?_
  refine OPS.nil ?_
  refine WP.block ?_
  refine WP.loop [6, 8, 27, 28, 29, 30, 31, 32, 33, 34] (fun k e w' => ∃ (j : Nat) (S : Option Addr) (c : Nat) (Lo : List Blk), j + k = 2 ∧ e 27 = I j ∧ e 6 = .slice S 0 c ∧ OwnS S c 0 [] 3 1 Lo ∧ SH w0 [] w' Lo) (2) (⟨0, none, 0, [], rfl, rfl, rfl, OwnS.nil, H⟩) ?_
  clear H
  rintro k u w ⟨j, S, c, Lo, hk, h27, h6, hO, H⟩
  refine WP.know (t := 27) h27 (WP.know (t := 6) h6 ?_)
  refine WP.seq ?_
  refine WP.region ?_
  refine OPS.val rfl rfl rfl (Ev.lss rfl rfl) ?_
  refine OPS.nil ?_
  refine WP.seq ?_
  refine WP.cond rfl (fun hc11 => ?_) (fun hc11 => ?_)
  · have hlt : j < 2 := by simp at hc11; omega
    have hzz := hat j hlt
    refine WP.skip ?_
    refine WP.seq ?_
    refine WP.block ?_
    refine WP.seq ?_
    refine WP.region ?_
    refine OPS.val rfl rfl rfl ((by exact Ev.indexAddr1 (el_run rfl) (size_run rfl) rfl rfl rfl (by omega))) ?_
    refine OPS.val rfl rfl rfl (Ev.load1 (agg_run rfl) rfl (H.ld0 hzz)) ?_
    refine OPS.val rfl rfl rfl (Ev.asS rfl) ?_
    refine OPS.nil ?_
    refine WP.region ?_
    refine OPS.val rfl rfl rfl (Ev.mvS rfl) ?_
    refine OPS.val rfl rfl rfl (Ev.mvS rfl) ?_
    refine OPS.appendE (m := 0) (news := []) (R := []) rfl rfl rfl rfl rfl (sl_run rfl) rfl rfl hO rfl (.inl rfl) rfl (by omega) (by unfold maxLen; omega) H (List.Perm.refl _) ?_
    clear H hO; intro S c Lo w hO H
    refine OPS.val rfl rfl rfl (Ev.asS rfl) ?_
    refine OPS.nil ?_
    refine WP.region ?_
    refine OPS.val rfl rfl rfl (Ev.add rfl rfl (by unfold fits; omega)) ?_
    refine OPS.val rfl rfl rfl (Ev.mvI rfl) ?_
    refine OPS.nil ?_
    exact ⟨(by repeat (first | exact Agree.refl _ _ | exact Agree.mix _ _ _ | refine Agree.upd rfl ?_ | refine Agree.mix2 rfl ?_)), k - 1, by omega, j + 1, S, c, Lo, by omega, rfl, rfl, hO, H⟩
  refine WP.exit ?_
  refine XB.hit ?_
  refine WP.seq ?_
  refine WP.region ?_
  refine OPS.val rfl rfl rfl (Ev.mvS rfl) ?_
  refine OPS.val rfl rfl rfl (Ev.asS rfl) ?_
  refine OPS.nil ?_
  refine WP.ret ⟨_, rfl, ?_⟩
  exact ⟨S, c, rfl, H.below⟩
theorem fareCheck (gt gf : Nat) (w0 : World) (hz : PriAt w0 gt gf) : Calls Tryz.prog 15 #[.agg fleetC.toArray, .agg (priC gt gf).toArray] w0 fun e w' => e = .returned (I 0) ∧ Below w0.heap.size w0 w' := by
  have H := SH.refl w0
  refine Calls.ofWP Tryz.func15 rfl Tryz.results15 Tryz.ntmps15 rfl ?_
  refine WP.seq ?_
  refine WP.region ?_
  refine OPS.box rfl rfl rfl rfl (cA rfl) H ?_
  clear H; intro g2 w H
  refine OPS.box rfl rfl rfl rfl (cA rfl) H ?_
  clear H; intro g3 w H
  refine OPS.val rfl rfl rfl (Ev.asI rfl) ?_
  refine OPS.nil ?_
  refine WP.seq ?_
  refine WP.seq ?_
  refine WP.region ?_
  refine OPS.val rfl rfl rfl ((by exact Ev.loadO 1 H rfl (agg_run rfl) (size_run rfl) (by rfl) rfl)) ?_
  refine OPS.call (d := some 11) rfl rfl rfl (EvC.func (fun_run rfl)) (evFleet w) ?_
  rintro _ w ⟨rfl, hb⟩
  refine ⟨_, rfl, ?_⟩
  replace H := H.toBelow hb; clear hb
  refine OPS.val rfl rfl rfl (Ev.asI rfl) ?_
  refine OPS.nil ?_
  refine WP.seq ?_
  refine WP.region ?_
  refine OPS.val rfl rfl rfl (Ev.mvI rfl) ?_
  refine OPS.val rfl rfl rfl (Ev.neq rfl rfl) ?_
  refine OPS.nil ?_
  refine WP.cond rfl (fun hc2 => ?_) (fun hc2 => ?_)
  · refine WP.seq ?_
    cases hc2
  refine WP.skip ?_
  refine WP.seq ?_
  refine WP.seq ?_
  refine WP.region ?_
  refine OPS.val rfl rfl rfl (Ev.fieldAddr (fld_run rfl) rfl) ?_
  refine OPS.val rfl rfl rfl (Ev.load1 (agg_run rfl) rfl (by exact H.ldL 0 rfl _ rfl)) ?_
  refine OPS.call (d := some 17) rfl rfl rfl (EvC.func (fun_run rfl)) (tarCheck gt 1 w (hz.sh H).tar) ?_
  rintro _ w ⟨rfl, hb⟩
  refine ⟨_, rfl, ?_⟩
  replace H := H.toBelow hb; clear hb
  refine OPS.val rfl rfl rfl (Ev.asI rfl) ?_
  refine OPS.nil ?_
  refine WP.seq ?_
  refine WP.region ?_
  refine OPS.val rfl rfl rfl (Ev.mvI rfl) ?_
  refine OPS.val rfl rfl rfl (Ev.neq rfl rfl) ?_
  refine OPS.nil ?_
  refine WP.cond rfl (fun hc5 => ?_) (fun hc5 => ?_)
  · refine WP.seq ?_
    cases hc5
  refine WP.skip ?_
  refine WP.seq ?_
  refine WP.seq ?_
  refine WP.region ?_
  refine OPS.val rfl rfl rfl (Ev.fieldAddr (fld_run rfl) rfl) ?_
  refine OPS.val rfl rfl rfl (Ev.load1 (agg_run rfl) rfl (by exact H.ldL 0 rfl _ rfl)) ?_
  refine OPS.call (d := some 23) rfl rfl rfl (EvC.func (fun_run rfl)) (passCheck w) ?_
  rintro _ w ⟨rfl, hb⟩
  refine ⟨_, rfl, ?_⟩
  replace H := H.toBelow hb; clear hb
  refine OPS.val rfl rfl rfl (Ev.asI rfl) ?_
  refine OPS.nil ?_
  refine WP.seq ?_
  refine WP.region ?_
  refine OPS.val rfl rfl rfl (Ev.mvI rfl) ?_
  refine OPS.val rfl rfl rfl (Ev.neq rfl rfl) ?_
  refine OPS.nil ?_
  refine WP.cond rfl (fun hc8 => ?_) (fun hc8 => ?_)
  · refine WP.seq ?_
    cases hc8
  refine WP.skip ?_
  refine WP.seq ?_
  refine WP.seq ?_
  refine WP.region ?_
  refine OPS.val rfl rfl rfl (Ev.fieldAddr (fld_run rfl) rfl) ?_
  refine OPS.val rfl rfl rfl (Ev.load1 (agg_run rfl) rfl (by exact H.ldL 0 rfl _ rfl)) ?_
  refine OPS.val rfl rfl rfl (Ev.len (el_run rfl) rfl) ?_
  refine OPS.val rfl rfl rfl (Ev.fieldAddr (fld_run rfl) rfl) ?_
  refine OPS.val rfl rfl rfl (Ev.load1 (agg_run rfl) rfl (by exact H.ldL 1 rfl _ rfl)) ?_
  refine OPS.val rfl rfl rfl (Ev.len (el_run rfl) rfl) ?_
  refine OPS.val rfl rfl rfl (Ev.neq rfl rfl) ?_
  refine OPS.val rfl rfl rfl (Ev.mvB rfl) ?_
  refine OPS.gval rfl rfl rfl rfl rfl (fun hg => Ev.fieldAddr (fld_run rfl) (by rfl)) ?_
  refine OPS.gval rfl rfl rfl rfl rfl (fun hg => Ev.load1 (agg_run rfl) (by exact gvE hg rfl) (by exact H.ldL 0 rfl _ rfl)) ?_
  refine OPS.gval rfl rfl rfl rfl rfl (fun hg => Ev.len (el_run rfl) (by exact gvE hg rfl)) ?_
  refine OPS.gval rfl rfl rfl rfl rfl (fun hg => Ev.gtr (by exact gvE hg rfl) (by rfl)) ?_
  refine OPS.val rfl rfl rfl ((by exact Ev.pickOr rfl rfl rfl)) ?_
  refine OPS.nil ?_
  refine WP.cond rfl (fun hc10 => ?_) (fun hc10 => ?_)
  · refine WP.seq ?_
    cases hc10
  refine WP.skip ?_
  refine WP.seq ?_
  refine WP.seq ?_
  refine WP.region ?_
  refine OPS.val rfl rfl rfl (Ev.fieldAddr (fld_run rfl) rfl) ?_
  refine OPS.val rfl rfl rfl (Ev.load1 (agg_run rfl) rfl (by exact H.ldL 0 rfl _ rfl)) ?_
  refine OPS.val rfl rfl rfl (Ev.fieldAddr (fld_run rfl) rfl) ?_
  refine OPS.val rfl rfl rfl (Ev.load1 (agg_run rfl) rfl (by exact H.ldL 0 rfl _ rfl)) ?_
  refine OPS.buildSlice rfl rfl rfl rfl (bsl_156_2_0_1 rfl rfl) H ?_
  clear H; intro g44 w H
  refine OPS.call (d := some 45) rfl rfl rfl (EvC.func (fun_run rfl)) (slConcat0 g44 w (cellsAt_own H 0 rfl [S0, S0] 0 (by intro j hj; match j, hj with | 0, _ => rfl | 1, _ => rfl))) ?_
  rintro _ w ⟨S, c, rfl, hb⟩
  refine ⟨_, rfl, ?_⟩
  replace H := H.toBelow hb; clear hb
  refine OPS.val rfl rfl rfl (Ev.len (el_run rfl) rfl) ?_
  refine OPS.val rfl rfl rfl (Ev.mvI rfl) ?_
  refine OPS.nil ?_
  refine WP.block ?_
  refine WP.loop [4, 9, 47, 48, 49, 50, 51, 52, 53, 54, 55, 56, 57] (fun k e w' => e 47 = I 0 ∧ SH w0 [] w' [⟨g44, 55, [S0, S0]⟩, ⟨g3, 63, priC gt gf⟩, ⟨g2, 57, fleetC⟩]) (0) (⟨rfl, H⟩) ?_
  clear H
  rintro k u w ⟨h47, H⟩
  refine WP.know (t := 47) h47 ?_
  refine WP.seq ?_
  refine WP.region ?_
  refine OPS.val rfl rfl rfl (Ev.lss rfl rfl) ?_
  refine OPS.nil ?_
  refine WP.seq ?_
  refine WP.cond rfl (fun hc13 => ?_) (fun hc13 => ?_)
  · refine WP.skip ?_
    refine WP.seq ?_
    refine WP.block ?_
    refine WP.seq ?_
    cases hc13
  refine WP.exit ?_
  refine XB.hit ?_
  refine WP.seq ?_
  refine WP.seq ?_
  refine WP.region ?_
  refine OPS.val rfl rfl rfl (Ev.fieldAddr (fld_run rfl) rfl) ?_
  refine OPS.val rfl rfl rfl (Ev.load1 (agg_run rfl) rfl (by exact H.ldL 1 rfl _ rfl)) ?_
  refine OPS.val rfl rfl rfl (Ev.lss rfl rfl) ?_
  refine OPS.val rfl rfl rfl (Ev.mvB rfl) ?_
  refine OPS.gval rfl rfl rfl rfl rfl (fun hg => Ev.fieldAddr (fld_run rfl) (by rfl)) ?_
  refine OPS.gval rfl rfl rfl rfl rfl (fun hg => Ev.load1 (agg_run rfl) (by exact gvE hg rfl) (by exact H.ldL 1 rfl _ rfl)) ?_
  refine OPS.gval rfl rfl rfl rfl rfl (fun hg => Ev.gtr (by exact gvE hg rfl) (by rfl)) ?_
  refine OPS.val rfl rfl rfl ((by exact Ev.pickOr rfl rfl rfl)) ?_
  refine OPS.nil ?_
  refine WP.cond rfl (fun hc18 => ?_) (fun hc18 => ?_)
  · refine WP.seq ?_
    cases hc18
  refine WP.skip ?_
  refine WP.seq ?_
  refine WP.region ?_
  refine OPS.val rfl rfl rfl ((by exact Ev.loadO 1 H rfl (agg_run rfl) (size_run rfl) (by rfl) rfl)) ?_
  refine OPS.call (d := some 67) rfl rfl rfl (EvC.func (fun_run rfl)) (penCheck gt gf w (hz.sh H)) ?_
  rintro _ w ⟨rfl, hb⟩
  refine ⟨_, rfl, ?_⟩
  replace H := H.toBelow hb; clear hb
  refine OPS.val rfl rfl rfl (Ev.asI rfl) ?_
  refine OPS.nil ?_
  refine WP.ret ⟨_, rfl, ?_⟩
  exact ⟨rfl, H.below⟩
end Go.Proofs.YtjgdklhbegplfaaGreat

/-
  Walks: the checks of rides and verdicts, of which there is one each.
-/
set_option linter.all false
namespace Go.Proofs.YtjgdklhbegplfaaGreat
open Go Go.W Go.RowKit
open Go.Maps (Keyed int_keyed keyOf_int_mk)

abbrev rideC (id rd : Int) (gl : Nat) : List Value := [I id, I rd, I 0, I 0, I 9, I 9, Value.bool false, .slice (some ⟨gl, 0, none⟩) 1 1, S0, I 2, I 0, I 2, I 0]
abbrev legC : List Value := [I 0, I 0, I 0, I 9, I 9]
def rideX (id rd : Int) (gl : Nat) : Wea.Ride := ⟨id, rd, 0, 0, 9, 9, false, ⟨some ⟨gl, 0, none⟩, 1, [⟨0, 0, 0, 9, 9⟩]⟩, ⟨none, 0, []⟩, 2, 0, 2, 0⟩
structure IdR (id rd : Int) : Prop where
  i0 : 1 ≤ id
  i1 : id ≤ 1000000
  r0 : 0 ≤ rd
  r1 : rd ≤ 127
theorem rideX_err {id rd : Int} {gl : Nat} (h : IdR id rd) : Wea.rideErr (rideX id rd gl) = 0 := by
  obtain ⟨a, b, c, d⟩ := h
  have h1 : Wea.rangedB (rideX id rd gl) = true := by
    unfold Wea.rangedB rideX Wea.spanB
    simp; omega
  have h2 : Wea.joinedB (rideX id rd gl) = true := by unfold Wea.joinedB rideX; simp [Wea.chainB]
  have h3 : Wea.orderedB (rideX id rd gl) = true := by unfold Wea.orderedB rideX; simp [Wea.legsB]
  have h4 : Wea.stateB (rideX id rd gl) = false := by unfold Wea.stateB rideX; simp
  rw [Wea.rideErr, if_neg (by rw [h1]; simp), if_neg (by rw [h2]; simp), if_neg (by rw [h3]; simp), if_neg (by rw [h4]; simp)]
structure RideW (w : World) (gl : Nat) : Prop where
  leg : cellsAt w gl 0 legC
theorem RideW.below {w w' : World} {gl : Nat} (h : RideW w gl) (hb : Below w.heap.size w w') : RideW w' gl := ⟨cellsAt_below hb h.leg⟩
theorem RideW.sh {w0 w : World} {L : List Blk} {gl : Nat} (h : RideW w0 gl) (H : SH w0 [] w L) : RideW w gl := h.below H.below
theorem RideW.at {w : World} {gl : Nat} (h : RideW w gl) (id rd : Int) : Wea.RideAt w (rideX id rd gl) := by
  refine ⟨fun k hk => ?_, RowsAt.nil, by unfold maxLen rideX; simp, by unfold maxLen rideX; simp⟩
  have : k = 0 := by have hk : k < 1 := hk; omega
  subst this
  exact ⟨gl, 0, rfl, h.leg⟩
theorem rideCheckX (id rd : Int) (gl : Nat) (hi : IdR id rd) (w0 : World) (hz : RideW w0 gl) : Calls Tryz.prog 50 #[.agg (rideC id rd gl).toArray] w0 fun e w' => e = .returned (I 0) ∧ Below w0.heap.size w0 w' := by
  have h := Wea.rideCheck (rideX id rd gl) w0 (hz.at id rd)
  rw [rideX_err hi] at h
  exact h
theorem wfI {a : Int} (h : fits a) : (Lit.int .i64 a).wf = true := by
  have h1 : IntKind.i64.min = -9223372036854775808 := by decide
  have h2 : IntKind.i64.max = 9223372036854775807 := by decide
  show (decide (IntKind.i64.min ≤ a) && decide (a ≤ IntKind.i64.max)) = true
  rw [h1, h2, Bool.and_eq_true, decide_eq_true_eq, decide_eq_true_eq]
  exact h
theorem keyI {a : Int} (h : fits a) : keyOf Tryz.prog 3 (I a) = some (.int .i64 a) := keyOf_int_mk Tryz.underlying3 ((wfI h))
theorem kyInt : Keyed Tryz.prog 3 := int_keyed Tryz.underlying3
set_option maxRecDepth 20000 in
theorem fareRides (b gl : Nat) (id rd : Int) (hi : IdR id rd) (w0 : World) (hr : RideW w0 gl) (hz : cellsAt w0 b 0 (rideC id rd gl)) :
    Calls Tryz.prog 16 #[.slice (some ⟨b, 0, none⟩) 1 1] w0 fun e w' => e = .returned (I 0) ∧ Below w0.heap.size w0 w' := by
  have H := SH.refl w0
  have hky := keyI (a := id) (by obtain ⟨a, b, c, d⟩ := hi; unfold fits; omega)
  refine Calls.ofWP Tryz.func16 rfl Tryz.results16 Tryz.ntmps16 rfl ?_
  refine WP.seq ?_
  refine WP.region ?_
  refine OPS.val rfl rfl rfl (Ev.asI rfl) ?_
  refine OPS.nil ?_
  refine WP.seq ?_
  refine WP.seq ?_
  refine WP.region ?_
  refine OPS.val rfl rfl rfl (Ev.mvS rfl) ?_
  refine OPS.val rfl rfl rfl (Ev.len (el_run rfl) rfl) ?_
  refine OPS.val rfl rfl rfl (Ev.gtr rfl rfl) ?_
  refine OPS.nil ?_
  refine WP.cond rfl (fun hc1 => ?_) (fun hc1 => ?_)
  · refine WP.seq ?_
    cases hc1
  refine WP.skip ?_
  refine WP.seq ?_
  refine WP.region ?_
  refine OPS.mkMap 3 rfl rfl rfl rfl H ?_
  clear H; intro w gm hgm hbm H M
  refine OPS.val rfl rfl rfl (Ev.assign) ?_
  refine OPS.nil ?_
  refine WP.seq ?_
  refine WP.region ?_
  refine OPS.val rfl rfl rfl (Ev.asB rfl) ?_
  refine OPS.nil ?_
  refine WP.seq ?_
  refine WP.seq ?_
  refine WP.region ?_
  refine OPS.val rfl rfl rfl (Ev.mvS rfl) ?_
  refine OPS.val rfl rfl rfl (Ev.len (el_run rfl) rfl) ?_
  refine OPS.val rfl rfl rfl (Ev.mvI rfl) ?_
  refine OPS.nil ?_
  refine WP.block ?_
  refine WP.loop [2, 4, 6, 7, 14, 15, 16, 17, 18, 19, 20, 21, 22, 23, 24, 25, 26, 27, 28, 29, 30, 31, 32, 33] (fun k e w' => ∃ j : Nat, j + k = 1 ∧ e 14 = I j ∧ e 4 = Value.bool false ∧ (j = 0 → MapAt Tryz.prog 3 w' gm []) ∧ SH w0 [] w' []) (1) (⟨0, rfl, rfl, rfl, (fun _ => M), H⟩) ?_
  clear H
  rintro k u w ⟨j, hk, h14, h4, hM, H⟩
  refine WP.know (t := 14) h14 (WP.know (t := 4) h4 ?_)
  refine WP.seq ?_
  refine WP.region ?_
  refine OPS.val rfl rfl rfl (Ev.lss rfl rfl) ?_
  refine OPS.nil ?_
  refine WP.seq ?_
  refine WP.cond rfl (fun hc6 => ?_) (fun hc6 => ?_)
  · obtain rfl : j = 0 := by simp at hc6; omega
    have M := hM rfl
    have hzz := cellsAt_sh H hz
    have hr1 := hr.sh H
    have H0 := H
    clear H
    have H := SH.refl w
    refine WP.skip ?_
    refine WP.seq ?_
    refine WP.block ?_
    refine WP.seq ?_
    refine WP.region ?_
    refine OPS.val rfl rfl rfl ((by exact Ev.indexAddr (el_run rfl) (size_run rfl) rfl rfl rfl (by omega))) ?_
    refine OPS.val rfl rfl rfl ((by (change Ev _ _ _ _ (Op.load 51 (Operand.tmp 16)) _; exact Ev.loadN (rideC id rd gl) (agg_run rfl) (size_run rfl) rfl hzz))) ?_
    refine OPS.alloc rfl rfl rfl rfl (zero_run rfl) rfl H ?_
    clear H; intro g6 w H
    refine OPS.store 0 _ rfl rfl rfl (size_run rfl) rfl (cA rfl) rfl rfl H rfl (by simp) ?_
    clear H; intro w H; try simp only [List.set_cons_zero, List.set_cons_succ, putL, Nat.zero_add] at H
    refine OPS.nil ?_
    refine WP.seq ?_
    refine WP.seq ?_
    refine WP.region ?_
    refine OPS.val rfl rfl rfl ((by exact Ev.loadO 0 H rfl (agg_run rfl) (size_run rfl) (by rfl) rfl)) ?_
    refine OPS.call (d := some 19) rfl rfl rfl (EvC.func (fun_run rfl)) (rideCheckX id rd gl hi w (hr1.sh H)) ?_
    rintro _ w ⟨rfl, hb⟩
    refine ⟨_, rfl, ?_⟩
    replace H := H.toBelow hb; clear hb
    refine OPS.val rfl rfl rfl (Ev.asI rfl) ?_
    refine OPS.nil ?_
    refine WP.seq ?_
    refine WP.region ?_
    refine OPS.val rfl rfl rfl (Ev.mvI rfl) ?_
    refine OPS.val rfl rfl rfl (Ev.neq rfl rfl) ?_
    refine OPS.nil ?_
    refine WP.cond rfl (fun hc9 => ?_) (fun hc9 => ?_)
    · refine WP.seq ?_
      cases hc9
    refine WP.skip ?_
    refine WP.seq ?_
    refine WP.region ?_
    refine OPS.val rfl rfl rfl (Ev.mvB rfl) ?_
    refine OPS.val rfl rfl rfl (Ev.mvB rfl) ?_
    refine OPS.gval rfl rfl rfl rfl rfl (fun hg => Ev.move) ?_
    refine OPS.gval rfl rfl rfl rfl rfl (fun hg => Ev.fieldAddr (fld_run rfl) (by rfl)) ?_
    refine OPS.gval rfl rfl rfl rfl rfl (fun hg => Ev.load1 (agg_run rfl) (by exact gvE hg rfl) (by exact H.ldL 0 rfl _ rfl)) ?_
    refine OPS.gval (v := Value.bool false) rfl rfl rfl rfl rfl (fun hg => Ev.look0 (M.sh H (by simp)) (by simp) kyInt Tryz.underlying120 (zero_run rfl) hky (gvE hg rfl) (gvE hg rfl)) ?_
    refine OPS.val rfl rfl rfl ((by exact Ev.pickOr rfl rfl rfl)) ?_
    refine OPS.val rfl rfl rfl (Ev.asB rfl) ?_
    refine OPS.nil ?_
    refine WP.region ?_
    refine OPS.val rfl rfl rfl (Ev.move) ?_
    refine OPS.val rfl rfl rfl (Ev.fieldAddr (fld_run rfl) rfl) ?_
    refine OPS.val rfl rfl rfl (Ev.load1 (agg_run rfl) rfl (by exact H.ldL 0 rfl _ rfl)) ?_
    refine OPS.putMap rfl rfl rfl (M.sh H (by simp)) kyInt Tryz.underlying120 hky rfl rfl rfl (H.weak (S' := [gm]) (by simp)) (.inl (by simp)) ?_
    clear H; intro w m' H M' hM1 hM2 hM3
    refine OPS.nil ?_
    refine WP.region ?_
    refine OPS.val rfl rfl rfl (Ev.add rfl rfl (by unfold fits; omega)) ?_
    refine OPS.val rfl rfl rfl (Ev.mvI rfl) ?_
    refine OPS.nil ?_
    exact ⟨(by repeat (first | exact Agree.refl _ _ | exact Agree.mix _ _ _ | refine Agree.upd rfl ?_ | refine Agree.mix2 rfl ?_)), 0, by omega, 1, rfl, rfl, rfl, (fun h => absurd h (by omega)), (H0.back H (by simp [hgm])).drop (List.nil_sublist _)⟩
  refine WP.exit ?_
  refine XB.hit ?_
  refine WP.seq ?_
  refine WP.seq ?_
  refine WP.region ?_
  refine OPS.val rfl rfl rfl (Ev.mvB rfl) ?_
  refine OPS.nil ?_
  refine WP.cond rfl (fun hc14 => ?_) (fun hc14 => ?_)
  · refine WP.seq ?_
    cases hc14
  refine WP.skip ?_
  refine WP.seq ?_
  refine WP.region ?_
  refine OPS.val rfl rfl rfl (Ev.asI rfl) ?_
  refine OPS.nil ?_
  refine WP.ret ⟨_, rfl, ?_⟩
  exact ⟨rfl, H.below⟩
abbrev verX (id rd t k : Int) : List Value := [I id, I rd, I t, I k]
set_option maxRecDepth 20000 in
theorem penVerdicts (b : Nat) (id rd t k : Int) (hi : IdR id rd) (ht : 0 ≤ t ∧ t ≤ 4294943999) (hkk : 1 ≤ k ∧ k ≤ 3) (w0 : World) (hz : cellsAt w0 b 0 (verX id rd t k)) :
    Calls Tryz.prog 17 #[.slice (some ⟨b, 0, none⟩) 1 1] w0 fun e w' => e = .returned (I 0) ∧ Below w0.heap.size w0 w' := by
  have H := SH.refl w0
  have hky := keyI (a := id) (by obtain ⟨a, b, c, d⟩ := hi; unfold fits; omega)
  obtain ⟨i1, i2, i3, i4⟩ := hi
  refine Calls.ofWP Tryz.func17 rfl Tryz.results17 Tryz.ntmps17 rfl ?_
  refine WP.seq ?_
  refine WP.region ?_
  refine OPS.val rfl rfl rfl (Ev.asI rfl) ?_
  refine OPS.nil ?_
  refine WP.seq ?_
  refine WP.seq ?_
  refine WP.region ?_
  refine OPS.val rfl rfl rfl (Ev.mvS rfl) ?_
  refine OPS.val rfl rfl rfl (Ev.len (el_run rfl) rfl) ?_
  refine OPS.val rfl rfl rfl (Ev.gtr rfl rfl) ?_
  refine OPS.nil ?_
  refine WP.cond rfl (fun hc1 => ?_) (fun hc1 => ?_)
  · refine WP.seq ?_
    cases hc1
  refine WP.skip ?_
  refine WP.seq ?_
  refine WP.region ?_
  refine OPS.mkMap 3 rfl rfl rfl rfl H ?_
  clear H; intro w gm hgm hbm H M
  refine OPS.val rfl rfl rfl (Ev.assign) ?_
  refine OPS.nil ?_
  refine WP.seq ?_
  refine WP.seq ?_
  refine WP.region ?_
  refine OPS.val rfl rfl rfl (Ev.mvS rfl) ?_
  refine OPS.val rfl rfl rfl (Ev.len (el_run rfl) rfl) ?_
  refine OPS.val rfl rfl rfl (Ev.mvI rfl) ?_
  refine OPS.nil ?_
  refine WP.block ?_
  refine WP.loop [2, 5, 12, 13, 14, 15, 16, 17, 18, 19, 20, 21, 22, 23, 24, 25, 26, 27, 28, 29, 30, 31, 32, 33, 34, 35, 36, 37, 38, 39, 40, 41, 42, 43, 44, 45, 46, 47, 48, 49, 50, 51, 52, 53, 54, 55, 56, 57, 58, 59, 60, 61, 62] (fun k' e w' => ∃ j : Nat, j + k' = 1 ∧ e 12 = I j ∧ (j = 0 → MapAt Tryz.prog 3 w' gm []) ∧ SH w0 [] w' []) (1) (⟨0, rfl, rfl, (fun _ => M), H⟩) ?_
  clear H
  rintro k' u w ⟨j, hk', h12, hM, H⟩
  refine WP.know (t := 12) h12 ?_
  refine WP.seq ?_
  refine WP.region ?_
  refine OPS.val rfl rfl rfl (Ev.lss rfl rfl) ?_
  refine OPS.nil ?_
  refine WP.seq ?_
  refine WP.cond rfl (fun hc5 => ?_) (fun hc5 => ?_)
  · obtain rfl : j = 0 := by simp at hc5; omega
    have M := hM rfl
    have hzz := cellsAt_sh H hz
    have H0 := H
    clear H
    have H := SH.refl w
    refine WP.skip ?_
    refine WP.seq ?_
    refine WP.block ?_
    refine WP.seq ?_
    refine WP.region ?_
    refine OPS.val rfl rfl rfl ((by exact Ev.indexAddr (el_run rfl) (size_run rfl) rfl rfl rfl (by omega))) ?_
    refine OPS.val rfl rfl rfl ((by (change Ev _ _ _ _ (Op.load 31 (Operand.tmp 14)) _; exact Ev.loadN (verX id rd t k) (agg_run rfl) (size_run rfl) rfl hzz))) ?_
    refine OPS.alloc rfl rfl rfl rfl (zero_run rfl) rfl H ?_
    clear H; intro g5 w H
    refine OPS.store 0 _ rfl rfl rfl (size_run rfl) rfl (cA rfl) rfl rfl H rfl (by simp) ?_
    clear H; intro w H; try simp only [List.set_cons_zero, List.set_cons_succ, putL, Nat.zero_add] at H
    refine OPS.nil ?_
    refine WP.seq ?_
    refine WP.block ?_
    refine WP.seq ?_
    refine WP.region ?_
    refine OPS.val rfl rfl rfl (Ev.fieldAddr (fld_run rfl) rfl) ?_
    refine OPS.val rfl rfl rfl (Ev.load1 (agg_run rfl) rfl (by exact H.ldL 0 rfl _ rfl)) ?_
    refine OPS.val rfl rfl rfl (Ev.lss rfl rfl) ?_
    refine OPS.val rfl rfl rfl (Ev.mvB rfl) ?_
    refine OPS.gval rfl rfl rfl rfl rfl (fun hg => Ev.fieldAddr (fld_run rfl) (by rfl)) ?_
    refine OPS.gval rfl rfl rfl rfl rfl (fun hg => Ev.load1 (agg_run rfl) (by exact gvE hg rfl) (by exact H.ldL 0 rfl _ rfl)) ?_
    refine OPS.gval rfl rfl rfl rfl rfl (fun hg => Ev.gtr (by exact gvE hg rfl) (by rfl)) ?_
    refine OPS.val rfl rfl rfl ((by exact Ev.pickOr rfl rfl rfl)) ?_
    refine OPS.val rfl rfl rfl (Ev.mvB rfl) ?_
    refine OPS.gval rfl rfl rfl rfl rfl (fun hg => Ev.fieldAddr (fld_run rfl) (by rfl)) ?_
    refine OPS.gval rfl rfl rfl rfl rfl (fun hg => Ev.load1 (agg_run rfl) (by exact gvE hg rfl) (by exact H.ldL 0 rfl _ rfl)) ?_
    refine OPS.gval rfl rfl rfl rfl rfl (fun hg => Ev.lss (by exact gvE hg rfl) (by rfl)) ?_
    refine OPS.val rfl rfl rfl ((by exact Ev.pickOr rfl rfl rfl)) ?_
    refine OPS.val rfl rfl rfl (Ev.mvB rfl) ?_
    refine OPS.gval rfl rfl rfl rfl rfl (fun hg => Ev.fieldAddr (fld_run rfl) (by rfl)) ?_
    refine OPS.gval rfl rfl rfl rfl rfl (fun hg => Ev.load1 (agg_run rfl) (by exact gvE hg rfl) (by exact H.ldL 0 rfl _ rfl)) ?_
    refine OPS.gval rfl rfl rfl rfl rfl (fun hg => Ev.geq (by exact gvE hg rfl) (by rfl)) ?_
    refine OPS.val rfl rfl rfl ((by exact Ev.pickOr rfl rfl rfl)) ?_
    refine OPS.val rfl rfl rfl (Ev.mvB rfl) ?_
    refine OPS.gval rfl rfl rfl rfl rfl (fun hg => Ev.fieldAddr (fld_run rfl) (by rfl)) ?_
    refine OPS.gval rfl rfl rfl rfl rfl (fun hg => Ev.load1 (agg_run rfl) (by exact gvE hg rfl) (by exact H.ldL 0 rfl _ rfl)) ?_
    refine OPS.gval rfl rfl rfl rfl rfl (fun hg => Ev.lss (by exact gvE hg rfl) (by rfl)) ?_
    refine OPS.val rfl rfl rfl ((by exact Ev.pickOr rfl rfl rfl)) ?_
    refine OPS.val rfl rfl rfl (Ev.mvB rfl) ?_
    refine OPS.gval rfl rfl rfl rfl rfl (fun hg => Ev.fieldAddr (fld_run rfl) (by rfl)) ?_
    refine OPS.gval rfl rfl rfl rfl rfl (fun hg => Ev.load1 (agg_run rfl) (by exact gvE hg rfl) (by exact H.ldL 0 rfl _ rfl)) ?_
    refine OPS.gval rfl rfl rfl rfl rfl (fun hg => Ev.gtr (by exact gvE hg rfl) (by rfl)) ?_
    refine OPS.val rfl rfl rfl ((by exact Ev.pickOr rfl rfl rfl)) ?_
    refine OPS.val rfl rfl rfl (Ev.asB rfl) ?_
    refine OPS.nil ?_
    refine WP.cond rfl (fun hc7 => ?_) (fun hc7 => ?_)
    · refine WP.seq ?_
      exfalso; simp at hc7; omega
    refine WP.seq ?_
    refine WP.region ?_
    refine OPS.val rfl rfl rfl (Ev.fieldAddr (fld_run rfl) rfl) ?_
    refine OPS.val rfl rfl rfl (Ev.load1 (agg_run rfl) rfl (by exact H.ldL 0 rfl _ rfl)) ?_
    refine OPS.val rfl rfl rfl (Ev.lss rfl rfl) ?_
    refine OPS.val rfl rfl rfl (Ev.mvB rfl) ?_
    refine OPS.gval rfl rfl rfl rfl rfl (fun hg => Ev.fieldAddr (fld_run rfl) (by rfl)) ?_
    refine OPS.gval rfl rfl rfl rfl rfl (fun hg => Ev.load1 (agg_run rfl) (by exact gvE hg rfl) (by exact H.ldL 0 rfl _ rfl)) ?_
    refine OPS.gval rfl rfl rfl rfl rfl (fun hg => Ev.gtr (by exact gvE hg rfl) (by rfl)) ?_
    refine OPS.val rfl rfl rfl ((by exact Ev.pickOr rfl rfl rfl)) ?_
    refine OPS.val rfl rfl rfl (Ev.asB rfl) ?_
    refine OPS.nil ?_
    refine WP.cond rfl (fun hc9 => ?_) (fun hc9 => ?_)
    · refine WP.seq ?_
      exfalso; simp at hc9; omega
    refine WP.seq ?_
    refine WP.region ?_
    refine OPS.val rfl rfl rfl (Ev.move) ?_
    refine OPS.val rfl rfl rfl (Ev.fieldAddr (fld_run rfl) rfl) ?_
    refine OPS.val rfl rfl rfl (Ev.load1 (agg_run rfl) rfl (by exact H.ldL 0 rfl _ rfl)) ?_
    refine OPS.val rfl rfl rfl (Ev.look0 (M.sh H (by simp)) (by simp) kyInt Tryz.underlying120 (zero_run rfl) hky rfl rfl) ?_
    refine OPS.val rfl rfl rfl (Ev.asB rfl) ?_
    refine OPS.nil ?_
    refine WP.cond rfl (fun hc11 => ?_) (fun hc11 => ?_)
    · refine WP.seq ?_
      cases hc11
    refine WP.skip ?_
    refine WP.region ?_
    refine OPS.val rfl rfl rfl (Ev.move) ?_
    refine OPS.val rfl rfl rfl (Ev.fieldAddr (fld_run rfl) rfl) ?_
    refine OPS.val rfl rfl rfl (Ev.load1 (agg_run rfl) rfl (by exact H.ldL 0 rfl _ rfl)) ?_
    refine OPS.putMap rfl rfl rfl (M.sh H (by simp)) kyInt Tryz.underlying120 hky rfl rfl rfl (H.weak (S' := [gm]) (by simp)) (.inl (by simp)) ?_
    clear H; intro w m' H M' hM1 hM2 hM3
    refine OPS.nil ?_
    refine WP.region ?_
    refine OPS.val rfl rfl rfl (Ev.add rfl rfl (by unfold fits; omega)) ?_
    refine OPS.val rfl rfl rfl (Ev.mvI rfl) ?_
    refine OPS.nil ?_
    exact ⟨(by repeat (first | exact Agree.refl _ _ | exact Agree.mix _ _ _ | refine Agree.upd rfl ?_ | refine Agree.mix2 rfl ?_)), 0, by omega, 1, rfl, rfl, (fun h => absurd h (by omega)), (H0.back H (by simp [hgm])).drop (List.nil_sublist _)⟩
  refine WP.exit ?_
  refine XB.hit ?_
  refine WP.seq ?_
  refine WP.region ?_
  refine OPS.val rfl rfl rfl (Ev.asI rfl) ?_
  refine OPS.nil ?_
  refine WP.ret ⟨_, rfl, ?_⟩
  exact ⟨rfl, H.below⟩
end Go.Proofs.YtjgdklhbegplfaaGreat

/-
  Walks: no pass pays; nothing is limited; no fine.
-/
set_option linter.all false
namespace Go.Proofs.YtjgdklhbegplfaaGreat
open Go Go.W Go.RowKit
open Go.Maps (Keyed int_keyed keyOf_int_mk)

set_option maxRecDepth 20000 in
theorem passChecked (b gl cap : Nat) (id rd : Int) (hi : IdR id rd) (w0 : World) (hr : RideW w0 gl) (hz : cellsAt w0 b 0 (rideC id rd gl)) :
    Calls Tryz.prog 54 #[S0, .slice (some ⟨b, 0, none⟩) 1 cap] w0 fun e w' => e = .returned (I 0) ∧ Below w0.heap.size w0 w' := by
  have H := SH.refl w0
  have hky := keyI (a := id) (by obtain ⟨a, b, c, d⟩ := hi; unfold fits; omega)
  refine Calls.ofWP Tryz.func54 rfl Tryz.results54 Tryz.ntmps54 rfl ?_
  refine WP.seq ?_
  refine WP.region ?_
  refine OPS.val rfl rfl rfl (Ev.asI rfl) ?_
  refine OPS.nil ?_
  refine WP.seq ?_
  refine WP.seq ?_
  refine WP.region ?_
  refine OPS.val rfl rfl rfl (Ev.mvS rfl) ?_
  refine OPS.call (d := some 13) rfl rfl rfl (EvC.func (fun_run rfl)) (passCheck w0) ?_
  rintro _ w ⟨rfl, hb⟩
  refine ⟨_, rfl, ?_⟩
  replace H := H.toBelow hb; clear hb
  refine OPS.val rfl rfl rfl (Ev.asI rfl) ?_
  refine OPS.nil ?_
  refine WP.seq ?_
  refine WP.region ?_
  refine OPS.val rfl rfl rfl (Ev.mvI rfl) ?_
  refine OPS.val rfl rfl rfl (Ev.neq rfl rfl) ?_
  refine OPS.nil ?_
  refine WP.cond rfl (fun hc2 => ?_) (fun hc2 => ?_)
  · refine WP.seq ?_
    cases hc2
  refine WP.skip ?_
  refine WP.seq ?_
  refine WP.seq ?_
  refine WP.region ?_
  refine OPS.val rfl rfl rfl (Ev.mvS rfl) ?_
  refine OPS.val rfl rfl rfl (Ev.len (el_run rfl) rfl) ?_
  refine OPS.val rfl rfl rfl (Ev.gtr rfl rfl) ?_
  refine OPS.nil ?_
  refine WP.cond rfl (fun hc4 => ?_) (fun hc4 => ?_)
  · refine WP.seq ?_
    cases hc4
  refine WP.skip ?_
  refine WP.seq ?_
  refine WP.seq ?_
  refine WP.region ?_
  refine OPS.val rfl rfl rfl (Ev.mvS rfl) ?_
  refine OPS.val rfl rfl rfl (Ev.len (el_run rfl) rfl) ?_
  refine OPS.val rfl rfl rfl (Ev.mvI rfl) ?_
  refine OPS.nil ?_
  refine WP.block ?_
  refine WP.loop [4, 7, 8, 22, 23, 24, 25, 26, 27, 28, 29, 30, 31] (fun k e w' => ∃ j : Nat, j + k = 1 ∧ e 22 = I j ∧ SH w0 [] w' []) (1) (⟨0, rfl, rfl, H⟩) ?_
  clear H
  rintro k u w ⟨j, hk, h22, H⟩
  refine WP.know (t := 22) h22 ?_
  refine WP.seq ?_
  refine WP.region ?_
  refine OPS.val rfl rfl rfl (Ev.lss rfl rfl) ?_
  refine OPS.nil ?_
  refine WP.seq ?_
  refine WP.cond rfl (fun hc7 => ?_) (fun hc7 => ?_)
  · obtain rfl : j = 0 := by simp at hc7; omega
    have hzz := cellsAt_sh H hz
    refine WP.skip ?_
    refine WP.seq ?_
    refine WP.block ?_
    refine WP.seq ?_
    refine WP.region ?_
    refine OPS.val rfl rfl rfl ((by exact Ev.indexAddr (el_run rfl) (size_run rfl) rfl rfl rfl (by omega))) ?_
    refine OPS.val rfl rfl rfl ((by (change Ev _ _ _ _ (Op.load 51 (Operand.tmp 24)) _; exact Ev.loadN (rideC id rd gl) (agg_run rfl) (size_run rfl) rfl hzz))) ?_
    refine OPS.alloc rfl rfl rfl rfl (zero_run rfl) rfl H ?_
    clear H; intro g7 w H
    refine OPS.store 0 _ rfl rfl rfl (size_run rfl) rfl (cA rfl) rfl rfl H rfl (by simp) ?_
    clear H; intro w H; try simp only [List.set_cons_zero, List.set_cons_succ, putL, Nat.zero_add] at H
    refine OPS.nil ?_
    refine WP.seq ?_
    refine WP.region ?_
    refine OPS.val rfl rfl rfl ((by exact Ev.loadO 0 H rfl (agg_run rfl) (size_run rfl) (by rfl) rfl)) ?_
    refine OPS.call (d := some 27) rfl rfl rfl (EvC.func (fun_run rfl)) (rideCheckX id rd gl hi w (hr.sh H)) ?_
    rintro _ w ⟨rfl, hb⟩
    refine ⟨_, rfl, ?_⟩
    replace H := H.toBelow hb; clear hb
    refine OPS.val rfl rfl rfl (Ev.asI rfl) ?_
    refine OPS.nil ?_
    refine WP.seq ?_
    refine WP.region ?_
    refine OPS.val rfl rfl rfl (Ev.mvI rfl) ?_
    refine OPS.val rfl rfl rfl (Ev.neq rfl rfl) ?_
    refine OPS.nil ?_
    refine WP.cond rfl (fun hc10 => ?_) (fun hc10 => ?_)
    · refine WP.seq ?_
      cases hc10
    refine WP.skip ?_
    refine WP.region ?_
    refine OPS.val rfl rfl rfl (Ev.add rfl rfl (by unfold fits; omega)) ?_
    refine OPS.val rfl rfl rfl (Ev.mvI rfl) ?_
    refine OPS.nil ?_
    exact ⟨(by repeat (first | exact Agree.refl _ _ | exact Agree.mix _ _ _ | refine Agree.upd rfl ?_ | refine Agree.mix2 rfl ?_)), 0, by omega, 1, rfl, rfl, H.drop (List.nil_sublist _)⟩
  refine WP.exit ?_
  refine XB.hit ?_
  refine WP.seq ?_
  refine WP.region ?_
  refine OPS.mkMap 3 rfl rfl rfl rfl H ?_
  clear H; intro w gm hgm hbm H M
  refine OPS.val rfl rfl rfl (Ev.assign) ?_
  refine OPS.nil ?_
  refine WP.seq ?_
  refine WP.seq ?_
  refine WP.region ?_
  refine OPS.val rfl rfl rfl (Ev.mvS rfl) ?_
  refine OPS.val rfl rfl rfl (Ev.len (el_run rfl) rfl) ?_
  refine OPS.val rfl rfl rfl (Ev.mvI rfl) ?_
  refine OPS.nil ?_
  refine WP.block ?_
  refine WP.loop [4, 11, 35, 36, 37, 38, 39, 40, 41, 42, 43, 44, 45, 46] (fun k e w' => ∃ j : Nat, j + k = 1 ∧ e 35 = I j ∧ (j = 0 → MapAt Tryz.prog 3 w' gm []) ∧ SH w0 [] w' []) (1) (⟨0, rfl, rfl, (fun _ => M), H⟩) ?_
  clear H
  rintro k u w ⟨j, hk, h35, hM, H⟩
  refine WP.know (t := 35) h35 ?_
  refine WP.seq ?_
  refine WP.region ?_
  refine OPS.val rfl rfl rfl (Ev.lss rfl rfl) ?_
  refine OPS.nil ?_
  refine WP.seq ?_
  refine WP.cond rfl (fun hc15 => ?_) (fun hc15 => ?_)
  · obtain rfl : j = 0 := by simp at hc15; omega
    have M := hM rfl
    have hzz := cellsAt_sh H hz
    have H0 := H
    clear H
    have H := SH.refl w
    refine WP.skip ?_
    refine WP.seq ?_
    refine WP.block ?_
    refine WP.seq ?_
    refine WP.region ?_
    refine OPS.val rfl rfl rfl ((by exact Ev.indexAddr (el_run rfl) (size_run rfl) rfl rfl rfl (by omega))) ?_
    refine OPS.val rfl rfl rfl ((by (change Ev _ _ _ _ (Op.load 51 (Operand.tmp 37)) _; exact Ev.loadN (rideC id rd gl) (agg_run rfl) (size_run rfl) rfl hzz))) ?_
    refine OPS.alloc rfl rfl rfl rfl (zero_run rfl) rfl H ?_
    clear H; intro g11 w H
    refine OPS.store 0 _ rfl rfl rfl (size_run rfl) rfl (cA rfl) rfl rfl H rfl (by simp) ?_
    clear H; intro w H; try simp only [List.set_cons_zero, List.set_cons_succ, putL, Nat.zero_add] at H
    refine OPS.nil ?_
    refine WP.seq ?_
    refine WP.seq ?_
    refine WP.region ?_
    refine OPS.val rfl rfl rfl (Ev.move) ?_
    refine OPS.val rfl rfl rfl (Ev.fieldAddr (fld_run rfl) rfl) ?_
    refine OPS.val rfl rfl rfl (Ev.load1 (agg_run rfl) rfl (by exact H.ldL 0 rfl _ rfl)) ?_
    refine OPS.val rfl rfl rfl (Ev.look0 (M.sh H (by simp)) (by simp) kyInt Tryz.underlying120 (zero_run rfl) hky rfl rfl) ?_
    refine OPS.nil ?_
    refine WP.cond rfl (fun hc17 => ?_) (fun hc17 => ?_)
    · refine WP.seq ?_
      cases hc17
    refine WP.skip ?_
    refine WP.region ?_
    refine OPS.val rfl rfl rfl (Ev.move) ?_
    refine OPS.val rfl rfl rfl (Ev.fieldAddr (fld_run rfl) rfl) ?_
    refine OPS.val rfl rfl rfl (Ev.load1 (agg_run rfl) rfl (by exact H.ldL 0 rfl _ rfl)) ?_
    refine OPS.putMap rfl rfl rfl (M.sh H (by simp)) kyInt Tryz.underlying120 hky rfl rfl rfl (H.weak (S' := [gm]) (by simp)) (.inl (by simp)) ?_
    clear H; intro w m' H M' hM1 hM2 hM3
    refine OPS.nil ?_
    refine WP.region ?_
    refine OPS.val rfl rfl rfl (Ev.add rfl rfl (by unfold fits; omega)) ?_
    refine OPS.val rfl rfl rfl (Ev.mvI rfl) ?_
    refine OPS.nil ?_
    exact ⟨(by repeat (first | exact Agree.refl _ _ | exact Agree.mix _ _ _ | refine Agree.upd rfl ?_ | refine Agree.mix2 rfl ?_)), 0, by omega, 1, rfl, rfl, (fun h => absurd h (by omega)), (H0.back H (by simp [hgm])).drop (List.nil_sublist _)⟩
  refine WP.exit ?_
  refine XB.hit ?_
  refine WP.seq ?_
  refine WP.region ?_
  refine OPS.val rfl rfl rfl (Ev.asI rfl) ?_
  refine OPS.nil ?_
  refine WP.ret ⟨_, rfl, ?_⟩
  exact ⟨rfl, H.below⟩
theorem slIndexPass (F : Nat) (caps : List Value) (w0 : World) : Calls Tryz.prog 101 #[S0, .func (.func F) #[] caps.toArray] w0 fun e w' => e = .returned (I (-1)) ∧ Below w0.heap.size w0 w' := by
  have H := SH.refl w0
  refine Calls.ofWP Tryz.func101 rfl Tryz.results101 Tryz.ntmps101 rfl ?_
  refine WP.seq ?_
  refine WP.region ?_
  refine OPS.val rfl rfl rfl (Ev.asI rfl) ?_
  refine OPS.nil ?_
  refine WP.seq ?_
  refine WP.seq ?_
  refine WP.region ?_
  refine OPS.val rfl rfl rfl (Ev.mvS rfl) ?_
  refine OPS.val rfl rfl rfl (Ev.len (el_run rfl) rfl) ?_
  refine OPS.val rfl rfl rfl (Ev.mvI rfl) ?_
  refine OPS.nil ?_
  refine WP.block ?_
  refine WP.loop [4, 5, 8, 9, 10, 11, 12, 13, 14, 15, 16, 17, 18] (fun k e w' => e 8 = I 0 ∧ SH w0 [] w' []) (0) (⟨rfl, H⟩) ?_
  clear H
  rintro k u w ⟨h8, H⟩
  refine WP.know (t := 8) h8 ?_
  refine WP.seq ?_
  refine WP.region ?_
  refine OPS.val rfl rfl rfl (Ev.lss rfl rfl) ?_
  refine OPS.nil ?_
  refine WP.seq ?_
  refine WP.cond rfl (fun hc2 => ?_) (fun hc2 => ?_)
  · refine WP.skip ?_
    refine WP.seq ?_
    refine WP.block ?_
    refine WP.seq ?_
    cases hc2
  refine WP.exit ?_
  refine XB.hit ?_
  refine WP.seq ?_
  refine WP.region ?_
  refine OPS.val rfl rfl rfl (Ev.asI rfl) ?_
  refine OPS.nil ?_
  refine WP.ret ⟨_, rfl, ?_⟩
  exact ⟨rfl, H.below⟩
set_option maxRecDepth 20000 in
theorem passUse1 (b gl cap : Nat) (id rd : Int) (w0 : World) (hz : cellsAt w0 b 0 (rideC id rd gl)) :
    Calls Tryz.prog 55 #[S0, .slice (some ⟨b, 0, none⟩) 1 cap] w0 fun e w' => ∃ g, e = .returned (.slice (some ⟨g, 0, none⟩) 1 1) ∧ SH w0 [] w' [⟨g, 3, [I (-1)]⟩] := by
  have H := SH.refl w0
  refine Calls.ofWP Tryz.func55 rfl Tryz.results55 Tryz.ntmps55 rfl ?_
  refine WP.seq ?_
  refine WP.region ?_
  refine OPS.box rfl rfl rfl rfl (cS rfl) H ?_
  clear H; intro g3 w H
  refine OPS.val rfl rfl rfl (Ev.asS rfl) ?_
  refine OPS.nil ?_
  refine WP.seq ?_
  refine WP.region ?_
  refine OPS.val rfl rfl rfl (Ev.load1 (agg_run rfl) rfl (by exact H.ldL 0 rfl _ rfl)) ?_
  refine OPS.val rfl rfl rfl (Ev.len (el_run rfl) rfl) ?_
  refine OPS.makeSlice rfl rfl rfl rfl (sl_run rfl) rfl rfl rfl (by omega) (by omega) H ?_
  clear H; intro g16 w H
  refine OPS.val rfl rfl rfl (Ev.asS rfl) ?_
  refine OPS.nil ?_
  refine WP.seq ?_
  refine WP.seq ?_
  refine WP.region ?_
  refine OPS.val rfl rfl rfl (Ev.mvS rfl) ?_
  refine OPS.val rfl rfl rfl (Ev.len (el_run rfl) rfl) ?_
  refine OPS.val rfl rfl rfl (Ev.mvI rfl) ?_
  refine OPS.nil ?_
  refine WP.block ?_
  refine WP.loop [6, 19, 20, 21, 22, 23, 24, 25, 26] (fun k e w' => ∃ j : Nat, j + k = 1 ∧ e 19 = I j ∧ SH w0 [] w' [⟨g16, 3, [I 0]⟩, ⟨g3, 64, [.slice (some ⟨b, 0, none⟩) 1 cap]⟩]) (1) (⟨0, rfl, rfl, H⟩) ?_
  clear H
  rintro k u w ⟨j, hk, h19, H⟩
  refine WP.know (t := 19) h19 ?_
  refine WP.seq ?_
  refine WP.region ?_
  refine OPS.val rfl rfl rfl (Ev.lss rfl rfl) ?_
  refine OPS.nil ?_
  refine WP.seq ?_
  refine WP.cond rfl (fun hc3 => ?_) (fun hc3 => ?_)
  · obtain rfl : j = 0 := by simp at hc3; omega
    refine WP.skip ?_
    refine WP.seq ?_
    refine WP.block ?_
    refine WP.seq ?_
    refine WP.region ?_
    refine OPS.val rfl rfl rfl (Ev.mvI rfl) ?_
    refine OPS.val rfl rfl rfl (Ev.asI rfl) ?_
    refine OPS.nil ?_
    refine WP.region ?_
    refine OPS.val rfl rfl rfl (Ev.mvS rfl) ?_
    refine OPS.val rfl rfl rfl (Ev.mvI rfl) ?_
    refine OPS.val rfl rfl rfl (Ev.mvI rfl) ?_
    refine OPS.val rfl rfl rfl ((by exact Ev.indexAddr1 (el_run rfl) (size_run rfl) rfl rfl rfl (by omega))) ?_
    refine OPS.store 0 _ rfl rfl rfl (size_run rfl) rfl (cI rfl) rfl rfl H rfl (by simp) ?_
    clear H; intro w H; try simp only [List.set_cons_zero, List.set_cons_succ, putL, Nat.zero_add] at H
    refine OPS.nil ?_
    refine WP.region ?_
    refine OPS.val rfl rfl rfl (Ev.add rfl rfl (by unfold fits; omega)) ?_
    refine OPS.val rfl rfl rfl (Ev.mvI rfl) ?_
    refine OPS.nil ?_
    exact ⟨(by repeat (first | exact Agree.refl _ _ | exact Agree.mix _ _ _ | refine Agree.upd rfl ?_ | refine Agree.mix2 rfl ?_)), 0, by omega, 1, rfl, rfl, H⟩
  refine WP.exit ?_
  refine XB.hit ?_
  refine WP.seq ?_
  refine WP.region ?_
  refine OPS.val rfl rfl rfl (Ev.mvS rfl) ?_
  refine OPS.val rfl rfl rfl (Ev.makeFunc) ?_
  refine OPS.call (d := some 29) rfl rfl rfl (EvC.func (fun_run rfl)) (srtInt (some ⟨g16, 0, none⟩) 1 1 (by omega) _ _ _ w) ?_
  rintro _ w ⟨rfl, hb⟩
  refine ⟨_, rfl, ?_⟩
  replace H := H.toBelow hb; clear hb
  refine OPS.nil ?_
  refine WP.seq ?_
  refine WP.region ?_
  refine OPS.val rfl rfl rfl (Ev.load1 (agg_run rfl) rfl (by exact H.ldL 1 rfl _ rfl)) ?_
  refine OPS.val rfl rfl rfl (Ev.len (el_run rfl) rfl) ?_
  refine OPS.makeSlice rfl rfl rfl rfl (sl_run rfl) rfl rfl rfl (by omega) (by omega) H ?_
  clear H; intro g32 w H
  refine OPS.mkMap 3 rfl rfl rfl rfl H ?_
  clear H; intro w gm hgm hbm H M; clear M
  refine OPS.val rfl rfl rfl (Ev.asS rfl) ?_
  refine OPS.val rfl rfl rfl (Ev.assign) ?_
  refine OPS.nil ?_
  refine WP.seq ?_
  refine WP.seq ?_
  refine WP.region ?_
  refine OPS.val rfl rfl rfl (Ev.mvS rfl) ?_
  refine OPS.val rfl rfl rfl (Ev.len (el_run rfl) rfl) ?_
  refine OPS.val rfl rfl rfl (Ev.mvI rfl) ?_
  refine OPS.nil ?_
  refine WP.block ?_
  refine WP.loop [10, 11, 12, 13, 36, 37, 38, 39, 40, 41, 42, 43, 44, 45, 46, 47, 48, 49, 50, 51, 52, 53, 54, 55, 56, 57, 58, 59, 60, 61, 62, 63, 64, 65, 66, 67, 68, 69, 70, 71, 72, 73, 74, 75, 76, 77, 78, 79, 80, 81, 82, 83, 84, 85, 86, 87, 88, 89, 90, 91, 92, 93, 94, 95, 96, 97, 98, 99, 100, 101, 102, 103, 104, 105, 106, 107, 108, 109, 110, 111, 112, 113, 114] (fun k e w' => ∃ j : Nat, j + k = 1 ∧ e 36 = I j ∧ SH w0 [] w' [⟨g32, 3, [I (if j = 0 then 0 else -1)]⟩, ⟨g16, 3, [I 0]⟩, ⟨g3, 64, [.slice (some ⟨b, 0, none⟩) 1 cap]⟩]) (1) (⟨0, rfl, rfl, H⟩) ?_
  clear H
  rintro k u w ⟨j, hk, h36, H⟩
  refine WP.know (t := 36) h36 ?_
  refine WP.seq ?_
  refine WP.region ?_
  refine OPS.val rfl rfl rfl (Ev.lss rfl rfl) ?_
  refine OPS.nil ?_
  refine WP.seq ?_
  refine WP.cond rfl (fun hc10 => ?_) (fun hc10 => ?_)
  · obtain rfl : j = 0 := by simp at hc10; omega
    have hzz := cellsAt_sh H hz
    rw [if_pos rfl] at H
    refine WP.skip ?_
    refine WP.seq ?_
    refine WP.block ?_
    refine WP.seq ?_
    refine WP.region ?_
    refine OPS.val rfl rfl rfl ((by exact Ev.indexAddr1 (el_run rfl) (size_run rfl) rfl rfl rfl (by omega))) ?_
    refine OPS.val rfl rfl rfl (Ev.load1 (agg_run rfl) rfl (by exact H.ldL 1 rfl _ rfl)) ?_
    refine OPS.val rfl rfl rfl (Ev.asI rfl) ?_
    refine OPS.nil ?_
    refine WP.seq ?_
    refine WP.region ?_
    refine OPS.val rfl rfl rfl (Ev.load1 (agg_run rfl) rfl (by exact H.ldL 2 rfl _ rfl)) ?_
    refine OPS.val rfl rfl rfl (Ev.mvI rfl) ?_
    refine OPS.val rfl rfl rfl (Ev.indexAddr (j := 0) (el_run rfl) (size_run rfl) rfl rfl rfl (by decide)) ?_
    refine OPS.val rfl rfl rfl ((by (change Ev _ _ _ _ (Op.load 51 (Operand.tmp 42)) _; exact Ev.loadN (rideC id rd gl) (agg_run rfl) (size_run rfl) rfl hzz))) ?_
    refine OPS.alloc rfl rfl rfl rfl (zero_run rfl) rfl H ?_
    clear H; intro g11 w H
    refine OPS.store 0 _ rfl rfl rfl (size_run rfl) rfl (cA rfl) rfl rfl H rfl (by simp) ?_
    clear H; intro w H; try simp only [List.set_cons_zero, List.set_cons_succ, putL, Nat.zero_add] at H
    refine OPS.nil ?_
    refine WP.seq ?_
    refine WP.region ?_
    refine OPS.val rfl rfl rfl (Ev.mvS rfl) ?_
    refine OPS.val rfl rfl rfl (Ev.mvI rfl) ?_
    refine OPS.val rfl rfl rfl (Ev.mvS rfl) ?_
    refine OPS.val rfl rfl rfl (Ev.makeFunc) ?_
    refine OPS.call (d := some 48) rfl rfl rfl (EvC.func (fun_run rfl)) (slIndexPass 102 [.pointer (some ⟨g11, 0, none⟩)] w) ?_
    rintro _ w ⟨rfl, hb⟩
    refine ⟨_, rfl, ?_⟩
    replace H := H.toBelow hb; clear hb
    refine OPS.val rfl rfl rfl (Ev.indexAddr1 (j := 0) (el_run rfl) (size_run rfl) rfl rfl rfl (by decide)) ?_
    refine OPS.store 1 _ rfl rfl rfl (size_run rfl) rfl (cI rfl) rfl rfl H rfl (by simp) ?_
    clear H; intro w H; try simp only [List.set_cons_zero, List.set_cons_succ, putL, Nat.zero_add] at H
    refine OPS.nil ?_
    refine WP.seq ?_
    refine WP.region ?_
    refine OPS.val rfl rfl rfl (Ev.mvS rfl) ?_
    refine OPS.val rfl rfl rfl (Ev.mvI rfl) ?_
    refine OPS.val rfl rfl rfl (Ev.indexAddr1 (j := 0) (el_run rfl) (size_run rfl) rfl rfl rfl (by decide)) ?_
    refine OPS.val rfl rfl rfl (Ev.load1 (agg_run rfl) rfl (by exact H.ldL 1 rfl _ rfl)) ?_
    refine OPS.val rfl rfl rfl (Ev.asI rfl) ?_
    refine OPS.nil ?_
    refine WP.block ?_
    refine WP.loop [12, 13, 54, 55, 56, 57, 58, 59, 60, 61, 62, 63, 64, 65, 66, 67, 68, 69, 70, 71, 72, 73, 74, 75, 76, 77, 78, 79, 80, 81, 82, 83, 84, 85, 86, 87, 88, 89, 90, 91, 92, 93, 94, 95, 96, 97, 98, 99, 100, 101, 102, 103, 104, 105, 106, 107, 108, 109, 110, 111, 112, 113] (fun k e w' => e 12 = I (-1) ∧ SH w0 [] w' [⟨g11, 51, rideC id rd gl⟩, ⟨g32, 3, [I (-1)]⟩, ⟨g16, 3, [I 0]⟩, ⟨g3, 64, [.slice (some ⟨b, 0, none⟩) 1 cap]⟩]) (0) (⟨rfl, H⟩) ?_
    clear H
    rintro k u w ⟨h12, H⟩
    refine WP.know (t := 12) h12 ?_
    refine WP.seq ?_
    refine WP.seq ?_
    refine WP.region ?_
    refine OPS.val rfl rfl rfl (Ev.mvI rfl) ?_
    refine OPS.val rfl rfl rfl (Ev.geq rfl rfl) ?_
    refine OPS.val rfl rfl rfl (Ev.mvB rfl) ?_
    refine OPS.gval rfl rfl rfl rfl rfl (fun hg => Ev.mvI (by rfl)) ?_
    refine OPS.gval rfl rfl rfl rfl rfl (fun hg => Ev.mvS (by rfl)) ?_
    refine OPS.gval rfl rfl rfl rfl rfl (fun hg => Ev.len (el_run rfl) (by exact gvE hg rfl)) ?_
    refine OPS.gval rfl rfl rfl rfl rfl (fun hg => Ev.lss (by exact gvE hg rfl) (by exact gvE hg rfl)) ?_
    refine OPS.val rfl rfl rfl ((by exact Ev.pickAnd rfl rfl rfl)) ?_
    refine OPS.nil ?_
    refine WP.cond rfl (fun hc15 => ?_) (fun hc15 => ?_)
    · refine WP.skip ?_
      refine WP.seq ?_
      refine WP.block ?_
      refine WP.seq ?_
      cases hc15
    refine WP.exit ?_
    refine XB.hit ?_
    refine WP.region ?_
    refine OPS.val rfl rfl rfl (Ev.add rfl rfl (by unfold fits; omega)) ?_
    refine OPS.val rfl rfl rfl (Ev.mvI rfl) ?_
    refine OPS.nil ?_
    exact ⟨(by repeat (first | exact Agree.refl _ _ | exact Agree.mix _ _ _ | refine Agree.upd rfl ?_ | refine Agree.mix2 rfl ?_)), 0, by omega, 1, rfl, rfl, H.drop (List.sublist_cons_self _ _)⟩
  refine WP.exit ?_
  refine XB.hit ?_
  refine WP.seq ?_
  refine WP.region ?_
  refine OPS.val rfl rfl rfl (Ev.mvS rfl) ?_
  refine OPS.val rfl rfl rfl (Ev.asS rfl) ?_
  refine OPS.nil ?_
  refine WP.ret ⟨_, rfl, ?_⟩
  obtain rfl : j = 1 := by simp at hc10; omega
  exact ⟨g32, rfl, H.drop (L' := [_]) (List.Sublist.cons_cons _ (List.nil_sublist _))⟩
set_option maxRecDepth 20000 in
theorem passUse (b gl cap : Nat) (id rd : Int) (hi : IdR id rd) (w0 : World) (hr : RideW w0 gl) (hz : cellsAt w0 b 0 (rideC id rd gl)) :
    Calls Tryz.prog 22 #[S0, .slice (some ⟨b, 0, none⟩) 1 cap] w0 fun e w' => ∃ g, e = .returned (.tuple #[.slice (some ⟨g, 0, none⟩) 1 1, I 0]) ∧ SH w0 [] w' [⟨g, 3, [I (-1)]⟩] := by
  have H := SH.refl w0
  refine Calls.ofWP Tryz.func22 rfl Tryz.results22 Tryz.ntmps22 rfl ?_
  refine WP.seq ?_
  refine WP.region ?_
  refine OPS.val rfl rfl rfl (Ev.asS rfl) ?_
  refine OPS.val rfl rfl rfl (Ev.asI rfl) ?_
  refine OPS.nil ?_
  refine WP.seq ?_
  refine WP.seq ?_
  refine WP.region ?_
  refine OPS.val rfl rfl rfl (Ev.mvS rfl) ?_
  refine OPS.val rfl rfl rfl (Ev.mvS rfl) ?_
  refine OPS.call (d := some 9) rfl rfl rfl (EvC.func (fun_run rfl)) (passChecked b gl cap id rd hi w0 hr hz) ?_
  rintro _ w ⟨rfl, hb⟩
  refine ⟨_, rfl, ?_⟩
  replace H := H.toBelow hb; clear hb
  refine OPS.val rfl rfl rfl (Ev.asI rfl) ?_
  refine OPS.nil ?_
  refine WP.seq ?_
  refine WP.region ?_
  refine OPS.val rfl rfl rfl (Ev.mvI rfl) ?_
  refine OPS.val rfl rfl rfl (Ev.neq rfl rfl) ?_
  refine OPS.nil ?_
  refine WP.cond rfl (fun hc2 => ?_) (fun hc2 => ?_)
  · refine WP.seq ?_
    cases hc2
  refine WP.skip ?_
  refine WP.seq ?_
  refine WP.region ?_
  refine OPS.val rfl rfl rfl (Ev.mvS rfl) ?_
  refine OPS.val rfl rfl rfl (Ev.mvS rfl) ?_
  refine OPS.call (d := some 15) rfl rfl rfl (EvC.func (fun_run rfl)) (passUse1 b gl cap id rd w (cellsAt_sh H hz)) ?_
  rintro _ w ⟨g, rfl, Hc⟩
  refine ⟨_, rfl, ?_⟩
  replace H := SH.call (Lv := []) (by rw [List.append_nil]; exact H) Hc
  clear Hc
  refine OPS.val rfl rfl rfl (Ev.asS rfl) ?_
  refine OPS.val rfl rfl rfl (Ev.asI rfl) ?_
  refine OPS.nil ?_
  refine WP.ret ⟨_, rfl, ?_⟩
  exact ⟨g, rfl, H⟩
theorem capIn (n lo hi : Int) (w0 : World) : Calls Tryz.prog 111 #[I n, I lo, I hi] w0 fun e w' => e = .returned (.bool (inB n lo hi)) ∧ Below w0.heap.size w0 w' := by
  have H := SH.refl w0
  refine Calls.ofWP Tryz.func111 rfl Tryz.results111 Tryz.ntmps111 rfl ?_
  refine WP.seq ?_
  refine WP.region ?_
  refine OPS.val rfl rfl rfl (Ev.asB rfl) ?_
  refine OPS.nil ?_
  refine WP.seq ?_
  refine WP.region ?_
  refine OPS.val rfl rfl rfl (Ev.mvI rfl) ?_
  refine OPS.val rfl rfl rfl (Ev.mvI rfl) ?_
  refine OPS.val rfl rfl rfl (Ev.leq rfl rfl) ?_
  refine OPS.val rfl rfl rfl (Ev.mvB rfl) ?_
  refine OPS.gval rfl rfl rfl rfl rfl (fun hg => Ev.mvI (by rfl)) ?_
  refine OPS.gval rfl rfl rfl rfl rfl (fun hg => Ev.mvI (by rfl)) ?_
  refine OPS.gval rfl rfl rfl rfl rfl (fun hg => Ev.leq (by exact gvE hg rfl) (by exact gvE hg rfl)) ?_
  refine OPS.val rfl rfl rfl ((by exact Ev.pickAnd rfl rfl rfl)) ?_
  refine OPS.val rfl rfl rfl (Ev.asB rfl) ?_
  refine OPS.nil ?_
  refine WP.ret ⟨_, rfl, ?_⟩
  exact ⟨rfl, H.below⟩
structure One (w : World) (b : Nat) (n : Int) : Prop where
  out : w.cell? ⟨b, 0, none⟩ = some (I n)
theorem One.below {w w' : World} {b : Nat} {n : Int} (h : One w b n) (hb : Below w.heap.size w w') : One w' b n := ⟨cell_below hb h.out⟩
theorem One.sh {w0 w : World} {L : List Blk} {b : Nat} {n : Int} (h : One w0 b n) (H : SH w0 [] w L) : One w b n := h.below H.below
theorem capCheck (b1 b2 b3 c1 c2 c3 : Nat) (rd : Int) (hi : 0 ≤ rd ∧ rd ≤ 127) (w0 : World) (h1 : One w0 b1 rd) (h2 : One w0 b2 0) (h3 : One w0 b3 100) :
    Calls Tryz.prog 61 #[I 0, .slice (some ⟨b1, 0, none⟩) 1 c1, .slice (some ⟨b2, 0, none⟩) 1 c2, .slice (some ⟨b3, 0, none⟩) 1 c3] w0 fun e w' => e = .returned (I 0) ∧ Below w0.heap.size w0 w' := by
  have H := SH.refl w0
  refine Calls.ofWP Tryz.func61 rfl Tryz.results61 Tryz.ntmps61 rfl ?_
  refine WP.seq ?_
  refine WP.region ?_
  refine OPS.val rfl rfl rfl (Ev.asI rfl) ?_
  refine OPS.nil ?_
  refine WP.seq ?_
  refine WP.block ?_
  refine WP.seq ?_
  refine WP.region ?_
  refine OPS.val rfl rfl rfl (Ev.mvI rfl) ?_
  refine OPS.call (d := some 12) rfl rfl rfl (EvC.func (fun_run rfl)) (capIn 0 0 1000000000000 w0) ?_
  rintro _ w ⟨rfl, hb⟩
  refine ⟨_, rfl, ?_⟩
  replace H := H.toBelow hb; clear hb
  refine OPS.val rfl rfl rfl (Ev.not rfl) ?_
  refine OPS.val rfl rfl rfl (Ev.asB rfl) ?_
  refine OPS.nil ?_
  refine WP.cond rfl (fun hc1 => ?_) (fun hc1 => ?_)
  · refine WP.seq ?_
    cases hc1
  refine WP.seq ?_
  refine WP.region ?_
  refine OPS.val rfl rfl rfl (Ev.mvS rfl) ?_
  refine OPS.val rfl rfl rfl (Ev.len (el_run rfl) rfl) ?_
  refine OPS.val rfl rfl rfl (Ev.mvS rfl) ?_
  refine OPS.val rfl rfl rfl (Ev.len (el_run rfl) rfl) ?_
  refine OPS.val rfl rfl rfl (Ev.neq rfl rfl) ?_
  refine OPS.val rfl rfl rfl (Ev.mvB rfl) ?_
  refine OPS.gval rfl rfl rfl rfl rfl (fun hg => Ev.mvS (by rfl)) ?_
  refine OPS.gval rfl rfl rfl rfl rfl (fun hg => Ev.len (el_run rfl) (by exact gvE hg rfl)) ?_
  refine OPS.gval rfl rfl rfl rfl rfl (fun hg => Ev.mvS (by rfl)) ?_
  refine OPS.gval rfl rfl rfl rfl rfl (fun hg => Ev.len (el_run rfl) (by exact gvE hg rfl)) ?_
  refine OPS.gval rfl rfl rfl rfl rfl (fun hg => Ev.neq (by exact gvE hg rfl) (by exact gvE hg rfl)) ?_
  refine OPS.val rfl rfl rfl ((by exact Ev.pickOr rfl rfl rfl)) ?_
  refine OPS.val rfl rfl rfl (Ev.asB rfl) ?_
  refine OPS.nil ?_
  refine WP.cond rfl (fun hc3 => ?_) (fun hc3 => ?_)
  · refine WP.seq ?_
    cases hc3
  refine WP.seq ?_
  refine WP.region ?_
  refine OPS.val rfl rfl rfl (Ev.mvS rfl) ?_
  refine OPS.val rfl rfl rfl (Ev.len (el_run rfl) rfl) ?_
  refine OPS.val rfl rfl rfl (Ev.gtr rfl rfl) ?_
  refine OPS.val rfl rfl rfl (Ev.asB rfl) ?_
  refine OPS.nil ?_
  refine WP.cond rfl (fun hc5 => ?_) (fun hc5 => ?_)
  · refine WP.seq ?_
    cases hc5
  refine WP.skip ?_
  refine WP.seq ?_
  refine WP.seq ?_
  refine WP.region ?_
  refine OPS.val rfl rfl rfl (Ev.mvS rfl) ?_
  refine OPS.val rfl rfl rfl (Ev.len (el_run rfl) rfl) ?_
  refine OPS.val rfl rfl rfl (Ev.mvI rfl) ?_
  refine OPS.nil ?_
  refine WP.block ?_
  refine WP.loop [8, 9, 33, 34, 35, 36, 37, 38, 39, 40, 41, 42, 43, 44, 45, 46, 47, 48, 49, 50, 51, 52, 53, 54, 55, 56, 57, 58] (fun k e w' => ∃ j : Nat, j + k = 1 ∧ e 33 = I j ∧ SH w0 [] w' []) (1) (⟨0, rfl, rfl, H⟩) ?_
  clear H
  rintro k u w ⟨j, hk, h33, H⟩
  refine WP.know (t := 33) h33 ?_
  refine WP.seq ?_
  refine WP.region ?_
  refine OPS.val rfl rfl rfl (Ev.lss rfl rfl) ?_
  refine OPS.nil ?_
  refine WP.seq ?_
  refine WP.cond rfl (fun hc8 => ?_) (fun hc8 => ?_)
  · obtain rfl : j = 0 := by simp at hc8; omega
    have k1 : w0.cell? ⟨b1, 0 + 0, none⟩ = some (I rd) := h1.out
    have k2 : w0.cell? ⟨b2, 0 + 0, none⟩ = some (I 0) := h2.out
    have k3 : w0.cell? ⟨b3, 0 + 0, none⟩ = some (I 100) := h3.out
    refine WP.skip ?_
    refine WP.seq ?_
    refine WP.block ?_
    refine WP.seq ?_
    refine WP.region ?_
    refine OPS.val rfl rfl rfl (Ev.mvI rfl) ?_
    refine OPS.val rfl rfl rfl (Ev.asI rfl) ?_
    refine OPS.nil ?_
    refine WP.seq ?_
    refine WP.region ?_
    refine OPS.val rfl rfl rfl (Ev.mvS rfl) ?_
    refine OPS.val rfl rfl rfl (Ev.mvI rfl) ?_
    refine OPS.val rfl rfl rfl ((by exact Ev.indexAddr1 (el_run rfl) (size_run rfl) rfl rfl rfl (by omega))) ?_
    refine OPS.val rfl rfl rfl (Ev.load1 (agg_run rfl) rfl (by exact H.ld0 (by assumption))) ?_
    refine OPS.call (d := some 40) rfl rfl rfl (EvC.func (fun_run rfl)) (capIn rd 0 127 w) ?_
    rintro _ w ⟨rfl, hb⟩
    refine ⟨_, rfl, ?_⟩
    replace H := H.toBelow hb; clear hb
    refine OPS.val rfl rfl rfl (Ev.not rfl) ?_
    refine OPS.val rfl rfl rfl (Ev.mvB rfl) ?_
    refine OPS.gval rfl rfl rfl rfl rfl (fun hg => Ev.mvS (by rfl)) ?_
    refine OPS.gval rfl rfl rfl rfl rfl (fun hg => Ev.mvI (by rfl)) ?_
    refine OPS.gval rfl rfl rfl rfl rfl (fun hg => (by exact Ev.indexAddr1 (el_run rfl) (size_run rfl) (by exact gvE hg rfl) (by exact gvE hg rfl) rfl (by omega))) ?_
    refine OPS.gval rfl rfl rfl rfl rfl (fun hg => Ev.load1 (agg_run rfl) (by exact gvE hg rfl) (by exact H.ld0 (by assumption))) ?_
    refine OPS.gcall0 (f := 111) (capIn 0 0 49709 w) (fun _ _ h => h) rfl rfl rfl rfl rfl (fun hg => EvC.conv (EvC.func (fun_run rfl)) (l3 (by exact gvE hg rfl) (by rfl) (by rfl))) ?_
    intro w hbc; replace H := H.toBelow hbc
    refine OPS.gval rfl rfl rfl rfl rfl (fun hg => Ev.not (by exact gvE hg rfl)) ?_
    refine OPS.val rfl rfl rfl ((by exact Ev.pickOr rfl rfl rfl)) ?_
    refine OPS.val rfl rfl rfl (Ev.mvB rfl) ?_
    refine OPS.gval rfl rfl rfl rfl rfl (fun hg => Ev.mvS (by rfl)) ?_
    refine OPS.gval rfl rfl rfl rfl rfl (fun hg => Ev.mvI (by rfl)) ?_
    refine OPS.gval rfl rfl rfl rfl rfl (fun hg => (by exact Ev.indexAddr1 (el_run rfl) (size_run rfl) (by exact gvE hg rfl) (by exact gvE hg rfl) rfl (by omega))) ?_
    refine OPS.gval rfl rfl rfl rfl rfl (fun hg => Ev.load1 (agg_run rfl) (by exact gvE hg rfl) (by exact H.ld0 (by assumption))) ?_
    refine OPS.gcall0 (f := 111) (capIn 100 0 1000000000000 w) (fun _ _ h => h) rfl rfl rfl rfl rfl (fun hg => EvC.conv (EvC.func (fun_run rfl)) (l3 (by exact gvE hg rfl) (by rfl) (by rfl))) ?_
    intro w hbc; replace H := H.toBelow hbc
    refine OPS.gval rfl rfl rfl rfl rfl (fun hg => Ev.not (by exact gvE hg rfl)) ?_
    refine OPS.val rfl rfl rfl ((by exact Ev.pickOr rfl rfl rfl)) ?_
    refine OPS.nil ?_
    refine WP.cond rfl (fun hc10 => ?_) (fun hc10 => ?_)
    · refine WP.seq ?_
      exfalso; simp [inB] at hc10; omega
    refine WP.skip ?_
    refine WP.region ?_
    refine OPS.val rfl rfl rfl (Ev.add rfl rfl (by unfold fits; omega)) ?_
    refine OPS.val rfl rfl rfl (Ev.mvI rfl) ?_
    refine OPS.nil ?_
    exact ⟨(by repeat (first | exact Agree.refl _ _ | exact Agree.mix _ _ _ | refine Agree.upd rfl ?_ | refine Agree.mix2 rfl ?_)), 0, by omega, 1, rfl, rfl, H⟩
  refine WP.exit ?_
  refine XB.hit ?_
  refine WP.seq ?_
  refine WP.region ?_
  refine OPS.val rfl rfl rfl (Ev.asI rfl) ?_
  refine OPS.nil ?_
  refine WP.ret ⟨_, rfl, ?_⟩
  exact ⟨rfl, H.below⟩
end Go.Proofs.YtjgdklhbegplfaaGreat

/-
  Walks: nothing is limited by the day.
-/
set_option linter.all false
namespace Go.Proofs.YtjgdklhbegplfaaGreat
open Go Go.W Go.RowKit
open Go.Maps (Keyed int_keyed keyOf_int_mk)

theorem laidP : laidOutB Tryz.prog = true := by kernel_rfl
theorem kyArr : Keyed Tryz.prog 186 := Keyed.of_law (deep_law_laid laidP (m := 2) (by omega) (of_decide_eq_true (by kernel_rfl)) (by kernel_rfl) (by kernel_rfl))
theorem keyA {a b : Int} (ha : fits a) (hb : fits b) : ∃ kl, keyOf Tryz.prog 186 (.agg #[I a, I b]) = some kl := by
  obtain ⟨d, hd⟩ : ∃ d, Tryz.prog.types.size = d + 1 := by
    have : 0 < Tryz.prog.types.size := of_decide_eq_true (by kernel_rfl)
    exact ⟨Tryz.prog.types.size - 1, by omega⟩
  have hk : Tryz.prog.keyType 186 = true := by kernel_rfl
  have hc : Tryz.prog.cellsOf 186 = 2 := by kernel_rfl
  have hc3 : Tryz.prog.cellsOf 3 = 1 := by kernel_rfl
  have hf : (Value.agg #[I a, I b]).formed Tryz.prog 186 = true := by simp [Value.formed, Tryz.underlying186, hc]
  have hi : ∀ n, fits n → Tryz.prog.keyLits (d + 1) 3 [I n] = some [.int .i64 n] := fun n hn => by
    unfold Program.keyLits; rw [Tryz.underlying3]
    simp [wfI hn]
  have hl : Tryz.prog.keyLits (d + 1 + 1) 186 [I a, I b] = some [.int .i64 a, .int .i64 b] := by
    unfold Program.keyLits; rw [Tryz.underlying186]
    simp [hc, hc3, List.range_succ, hi a ha, hi b hb]
  refine ⟨.string (keyBytes [.int .i64 a, .int .i64 b]), ?_⟩
  unfold keyOf
  rw [Tryz.underlying186]
  simp [hk, hf, hd, Value.cells, hl]
theorem bld_186_0_1 {e : Env} {x0 x1 : Operand} {n0 n1 : Int} (h0 : ev e x0 = .int .i64 n0) (h1 : ev e x1 = .int .i64 n1) : ∀ w, (Instr.build 186 #[(0, ev e x0), (1, ev e x1)]).run Tryz.prog w = .ok (.agg #[.int .i64 n0, .int .i64 n1]) w := by
  intro w
  rw [h0, h1]
  simp [Instr.build, go_sem]
set_option maxRecDepth 20000 in
theorem capApply1 (b1 b2 b3 c1 c2 c3 : Nat) (rd : Int) (hi : 0 ≤ rd ∧ rd ≤ 127) (w0 : World) (h1 : One w0 b1 rd) (h2 : One w0 b2 0) (h3 : One w0 b3 100) :
    Calls Tryz.prog 62 #[I 0, .slice (some ⟨b1, 0, none⟩) 1 c1, .slice (some ⟨b2, 0, none⟩) 1 c2, .slice (some ⟨b3, 0, none⟩) 1 c3] w0 fun e w' =>
      ∃ (S : Option Addr) (c gm : Nat) (Lo : List Blk), e = .returned (.tuple #[.slice S 1 c, .map (some gm)]) ∧ OwnS S c 1 [I 100] 3 1 Lo ∧ SH w0 [] w' Lo := by
  have H := SH.refl w0
  obtain ⟨kl, hka⟩ := keyA (a := rd) (b := 0) (by unfold fits; omega) (by unfold fits; omega)
  refine Calls.ofWP Tryz.func62 rfl Tryz.results62 Tryz.ntmps62 rfl ?_
  refine WP.seq ?_
  refine WP.region ?_
  refine OPS.val rfl rfl rfl (Ev.asS rfl) ?_
  refine OPS.val rfl rfl rfl (Ev.assign) ?_
  refine OPS.nil ?_
  refine WP.seq ?_
  refine WP.region ?_
  refine OPS.val rfl rfl rfl (Ev.asS rfl) ?_
  refine OPS.nil ?_
  refine WP.seq ?_
  refine WP.region ?_
  refine OPS.mkMap 186 rfl rfl rfl rfl H ?_
  clear H; intro w gm hgm hbm H M
  refine OPS.val rfl rfl rfl (Ev.assign) ?_
  refine OPS.nil ?_
  refine WP.seq ?_
  refine WP.seq ?_
  refine WP.region ?_
  refine OPS.val rfl rfl rfl (Ev.mvS rfl) ?_
  refine OPS.val rfl rfl rfl (Ev.len (el_run rfl) rfl) ?_
  refine OPS.val rfl rfl rfl (Ev.mvI rfl) ?_
  refine OPS.nil ?_
  refine WP.block ?_
  refine WP.loop [10, 12, 13, 14, 18, 19, 20, 21, 22, 23, 24, 25, 26, 27, 28, 29, 30, 31, 32, 33, 34, 35, 36, 37, 38, 39, 40, 41, 42, 43, 44, 45, 46, 47, 48, 49, 50, 51, 52] (fun k e w' => ∃ (j : Nat) (S : Option Addr) (c : Nat) (Lo : List Blk), j + k = 1 ∧ e 18 = I j ∧ e 10 = .slice S j c ∧ OwnS S c j (if j = 0 then [] else [I 100]) 3 1 Lo ∧ (j = 0 → MapAt Tryz.prog 186 w' gm []) ∧ SH w0 [] w' Lo) (1) (⟨0, none, 0, [], rfl, rfl, rfl, OwnS.nil, (fun _ => M), H⟩) ?_
  clear H
  rintro k u wB ⟨j, S, c, Lo, hk, h18, h10, hO, hM, H⟩
  refine WP.know (t := 18) h18 (WP.know (t := 10) h10 ?_)
  refine WP.seq ?_
  refine WP.region ?_
  refine OPS.val rfl rfl rfl (Ev.lss rfl rfl) ?_
  refine OPS.nil ?_
  refine WP.seq ?_
  refine WP.cond rfl (fun hc4 => ?_) (fun hc4 => ?_)
  · obtain rfl : j = 0 := by simp at hc4; omega
    rw [if_pos rfl] at hO
    have M := hM rfl
    have k1 := (h1.sh H).out
    have k2 := (h2.sh H).out
    have k3 := (h3.sh H).out
    have H0 := H
    have hnm := M.notMem H
    clear H
    have H := SH.refl wB
    refine WP.skip ?_
    refine WP.seq ?_
    refine WP.block ?_
    refine WP.seq ?_
    refine WP.region ?_
    refine OPS.val rfl rfl rfl (Ev.mvI rfl) ?_
    refine OPS.val rfl rfl rfl ((by exact Ev.indexAddr1 (el_run rfl) (size_run rfl) rfl rfl rfl (by omega))) ?_
    refine OPS.val rfl rfl rfl (Ev.load1 (agg_run rfl) rfl (H.ld0 k3)) ?_
    refine OPS.val rfl rfl rfl (Ev.asI rfl) ?_
    refine OPS.val rfl rfl rfl (Ev.asI rfl) ?_
    refine OPS.nil ?_
    refine WP.seq ?_
    refine WP.rheldC [14, 23, 24, 25, 26, 27, 28, 29, 30, 31] (fun u w' => ∃ g14, u 14 = .pointer (some ⟨g14, 0, none⟩) ∧ SH wB [] w' [⟨g14, 186, [I rd, I 0]⟩]) mixed H ?_ ?_
    · clear H; intro w hbw6 H
      refine OPH.take 0 rfl rfl rfl rfl (by kernel_rfl) (by kernel_rfl) (by kernel_rfl) rfl (by exact H) (fun w H => Ev.mvS rfl) ?_
      refine OPH.take 1 rfl rfl rfl rfl (by kernel_rfl) (by kernel_rfl) (by kernel_rfl) rfl (by exact H) (fun w H => Ev.mvI rfl) ?_
      refine OPH.take 2 rfl rfl rfl rfl (by kernel_rfl) (by kernel_rfl) (by kernel_rfl) rfl (by exact H) (fun w H => (by exact Ev.indexAddr1 (el_run rfl) (size_run rfl) rfl rfl rfl (by omega))) ?_
      refine OPH.take 3 rfl rfl rfl rfl (by kernel_rfl) (by kernel_rfl) (by kernel_rfl) rfl (by exact H) (fun w H => Ev.load1 (agg_run rfl) rfl (by exact H.ld0 (by assumption))) ?_
      refine OPH.take 4 rfl rfl rfl rfl (by kernel_rfl) (by kernel_rfl) (by kernel_rfl) rfl (by exact H) (fun w H => Ev.mvS rfl) ?_
      refine OPH.take 5 rfl rfl rfl rfl (by kernel_rfl) (by kernel_rfl) (by kernel_rfl) rfl (by exact H) (fun w H => Ev.mvI rfl) ?_
      refine OPH.take 6 rfl rfl rfl rfl (by kernel_rfl) (by kernel_rfl) (by kernel_rfl) rfl (by exact H) (fun w H => (by exact Ev.indexAddr1 (el_run rfl) (size_run rfl) rfl rfl rfl (by omega))) ?_
      refine OPH.take 7 rfl rfl rfl rfl (by kernel_rfl) (by kernel_rfl) (by kernel_rfl) rfl (by exact H) (fun w H => Ev.load1 (agg_run rfl) rfl (by exact H.ld0 (by assumption))) ?_
      refine OPH.take 8 rfl rfl rfl rfl (by kernel_rfl) (by kernel_rfl) (by kernel_rfl) rfl (by exact H) (fun w H => Ev.build (bld_186_0_1 rfl rfl)) ?_
      refine OPH.all [9] (by kernel_rfl) (by simp) rfl ?_
      intro i hi; simp only [List.mem_cons, List.not_mem_nil, or_false] at hi
      rcases hi with rfl
      · refine ⟨_, rfl, ?_⟩
        refine OPS.alloc rfl rfl rfl rfl (zero_run rfl) rfl H ?_
        clear H; intro g14 w E
        have H := E.drop (List.sublist_cons_self _ _)
        refine OPS.nil ?_
        refine ⟨(by exact H), ?_⟩
        refine OPH.all [10] (by kernel_rfl) (by simp) rfl ?_
        intro i hi; simp only [List.mem_cons, List.not_mem_nil, or_false] at hi
        rcases hi with rfl
        · refine ⟨_, rfl, ?_⟩
          refine OPS.store 0 _ rfl rfl rfl (size_run rfl) rfl (cA rfl) rfl rfl E rfl (by simp) ?_
          clear H E; intro w E
          have H := E.drop (List.nil_sublist _)
          refine OPS.nil ?_
          refine ⟨(by exact H), ?_⟩
          refine OPH.done (by kernel_rfl) ?_
          exact ⟨(by repeat (first | exact Agree.refl _ _ | exact Agree.mix _ _ _ | refine Agree.upd rfl ?_ | refine Agree.mix2 rfl ?_)), g14, rfl, E⟩
    clear H
    rintro u w ⟨g14, h14, H⟩
    refine WP.know (t := 14) h14 ?_
    refine WP.seq ?_
    refine WP.seq ?_
    refine WP.region ?_
    refine OPS.val rfl rfl rfl (Ev.mvI rfl) ?_
    refine OPS.val rfl rfl rfl (Ev.gtr rfl rfl) ?_
    refine OPS.nil ?_
    refine WP.cond rfl (fun hc7 => ?_) (fun hc7 => ?_)
    · cases hc7
    refine WP.skip ?_
    refine WP.seq ?_
    replace M := M.sh H (by simp)
    replace H := H.weak (S' := [gm]) (by simp)
    refine WP.rheldC [41, 42, 43, 44, 45, 46, 47] (fun u w' => SH w0 [] w' ([⟨g14, 186, [I rd, I 0]⟩] ++ Lo)) mixed H ?_ ?_
    · clear H; intro w hbw9 H
      refine OPH.take 0 rfl rfl rfl rfl (by kernel_rfl) (by kernel_rfl) (by kernel_rfl) rfl (by exact H) (fun w H => Ev.move) ?_
      refine OPH.take 1 rfl rfl rfl rfl (by kernel_rfl) (by kernel_rfl) (by kernel_rfl) rfl (by exact H) (fun w H => (by exact Ev.loadO 0 H rfl (agg_run rfl) (size_run rfl) (by rfl) rfl)) ?_
      refine OPH.take 3 rfl rfl rfl rfl (by kernel_rfl) (by kernel_rfl) (by kernel_rfl) rfl (by exact H) (fun w H => Ev.mvI rfl) ?_
      refine OPH.all [2, 5] (by kernel_rfl) (by simp) rfl ?_
      intro i hi; simp only [List.mem_cons, List.not_mem_nil, or_false] at hi
      rcases hi with rfl | rfl
      · refine ⟨_, rfl, ?_⟩
        first
          | refine OPS.val rfl rfl rfl (Ev.look1 (val := I 0) MM (by simp) kyArr Tryz.underlying137 (zero_run rfl) hka rfl rfl) ?_
          | refine OPS.val rfl rfl rfl (Ev.look0 (M.below hbw9) (by simp) kyArr Tryz.underlying137 (zero_run rfl) hka rfl rfl) ?_
        refine OPS.nil ?_
        refine ⟨(by exact H), ?_⟩
        refine OPH.take 4 rfl rfl rfl rfl (by kernel_rfl) (by kernel_rfl) (by kernel_rfl) rfl (by exact H) (fun w H => Ev.add rfl rfl (by unfold fits; omega)) ?_
        refine OPH.all [5] (by kernel_rfl) (by simp) rfl ?_
        intro i hi; simp only [List.mem_cons, List.not_mem_nil, or_false] at hi
        rcases hi with rfl
        · refine ⟨_, rfl, ?_⟩
          refine OPS.entMap rfl rfl rfl rfl (M.below hbw9) kyArr Tryz.underlying137 (zero_run rfl) hka (by simp) rfl rfl H (.inl (by simp)) ?_
          clear H; intro w st H MM ST hoth
          refine OPS.nil ?_
          refine ⟨(by exact H), ?_⟩
          refine OPH.take 6 rfl rfl rfl rfl (by kernel_rfl) (by kernel_rfl) (by kernel_rfl) rfl (by exact H) (fun w H => Ev.extract rfl rfl) ?_
          refine OPH.all [7] (by kernel_rfl) (by simp) rfl ?_
          intro i hi; simp only [List.mem_cons, List.not_mem_nil, or_false] at hi
          rcases hi with rfl
          · refine ⟨_, rfl, ?_⟩
            refine OPS.stoMap rfl rfl rfl ST rfl rfl H (.inl (by simp)) ?_
            clear H; intro w H hoth2
            refine OPS.nil ?_
            refine ⟨(by exact H), ?_⟩
            refine OPH.done (by kernel_rfl) ?_
            exact ⟨(by repeat (first | exact Agree.refl _ _ | exact Agree.mix _ _ _ | refine Agree.upd rfl ?_ | refine Agree.mix2 rfl ?_)), H0.back H (fun g hg => by obtain rfl := List.mem_singleton.1 hg; exact ⟨.inl hgm, hnm⟩)⟩
      · refine ⟨_, rfl, ?_⟩
        refine OPS.entMap rfl rfl rfl rfl (M.below hbw9) kyArr Tryz.underlying137 (zero_run rfl) hka (by simp) rfl rfl H (.inl (by simp)) ?_
        clear H; intro w st H MM ST hoth
        refine OPS.nil ?_
        refine ⟨(by exact H), ?_⟩
        refine OPH.take 6 rfl rfl rfl rfl (by kernel_rfl) (by kernel_rfl) (by kernel_rfl) rfl (by exact H) (fun w H => Ev.extract rfl rfl) ?_
        refine OPH.all [2] (by kernel_rfl) (by simp) rfl ?_
        intro i hi; simp only [List.mem_cons, List.not_mem_nil, or_false] at hi
        rcases hi with rfl
        · refine ⟨_, rfl, ?_⟩
          first
            | refine OPS.val rfl rfl rfl (Ev.look1 (val := I 0) MM (by simp) kyArr Tryz.underlying137 (zero_run rfl) hka rfl rfl) ?_
            | refine OPS.val rfl rfl rfl (Ev.look0 (M.below hbw9) (by simp) kyArr Tryz.underlying137 (zero_run rfl) hka rfl rfl) ?_
          refine OPS.nil ?_
          refine ⟨(by exact H), ?_⟩
          refine OPH.take 4 rfl rfl rfl rfl (by kernel_rfl) (by kernel_rfl) (by kernel_rfl) rfl (by exact H) (fun w H => Ev.add rfl rfl (by unfold fits; omega)) ?_
          refine OPH.all [7] (by kernel_rfl) (by simp) rfl ?_
          intro i hi; simp only [List.mem_cons, List.not_mem_nil, or_false] at hi
          rcases hi with rfl
          · refine ⟨_, rfl, ?_⟩
            refine OPS.stoMap rfl rfl rfl ST rfl rfl H (.inl (by simp)) ?_
            clear H; intro w H hoth2
            refine OPS.nil ?_
            refine ⟨(by exact H), ?_⟩
            refine OPH.done (by kernel_rfl) ?_
            exact ⟨(by repeat (first | exact Agree.refl _ _ | exact Agree.mix _ _ _ | refine Agree.upd rfl ?_ | refine Agree.mix2 rfl ?_)), H0.back H (fun g hg => by obtain rfl := List.mem_singleton.1 hg; exact ⟨.inl hgm, hnm⟩)⟩
    clear H
    rintro u w H
    refine WP.region ?_
    refine OPS.val rfl rfl rfl (Ev.mvS rfl) ?_
    refine OPS.val rfl rfl rfl (Ev.mvI rfl) ?_
    refine OPS.buildSlice rfl rfl rfl rfl (bsl_55_1_0 rfl) H ?_
    clear H; intro g50 w H
    refine OPS.append (m := 1) (news := [I 100]) (R := [⟨g50, 3, [I 100]⟩, ⟨g14, 186, [I rd, I 0]⟩]) rfl rfl rfl rfl rfl (sl_run rfl) rfl rfl hO rfl (src_own H 0 rfl) rfl (by omega) (by unfold maxLen; omega) H (List.Perm.refl _) ?_
    clear H hO; intro S c Lo w hO H
    refine OPS.val rfl rfl rfl (Ev.asS rfl) ?_
    refine OPS.nil ?_
    refine WP.region ?_
    refine OPS.val rfl rfl rfl (Ev.add rfl rfl (by unfold fits; omega)) ?_
    refine OPS.val rfl rfl rfl (Ev.mvI rfl) ?_
    refine OPS.nil ?_
    exact ⟨(by repeat (first | exact Agree.refl _ _ | exact Agree.mix _ _ _ | refine Agree.upd rfl ?_ | refine Agree.mix2 rfl ?_)), 0, by omega, 1, S, c, Lo, rfl, rfl, rfl, hO, (fun h => absurd h (by omega)), H.drop (List.sublist_append_right [_, _] _)⟩
  refine WP.exit ?_
  refine XB.hit ?_
  refine WP.seq ?_
  refine WP.region ?_
  refine OPS.val rfl rfl rfl (Ev.mvS rfl) ?_
  refine OPS.val rfl rfl rfl (Ev.move) ?_
  refine OPS.val rfl rfl rfl (Ev.asS rfl) ?_
  refine OPS.val rfl rfl rfl (Ev.assign) ?_
  refine OPS.nil ?_
  refine WP.ret ⟨_, rfl, ?_⟩
  obtain rfl : j = 1 := by simp at hc4; omega
  exact ⟨S, c, gm, Lo, rfl, hO, H⟩
theorem capApply (b1 b2 b3 c1 c2 c3 : Nat) (rd : Int) (hi : 0 ≤ rd ∧ rd ≤ 127) (w0 : World) (h1 : One w0 b1 rd) (h2 : One w0 b2 0) (h3 : One w0 b3 100) :
    Calls Tryz.prog 24 #[I 0, .slice (some ⟨b1, 0, none⟩) 1 c1, .slice (some ⟨b2, 0, none⟩) 1 c2, .slice (some ⟨b3, 0, none⟩) 1 c3] w0 fun e w' =>
      ∃ (S : Option Addr) (c : Nat) (Lo : List Blk), e = .returned (.tuple #[.slice S 1 c, I 0]) ∧ OwnS S c 1 [I 100] 3 1 Lo ∧ SH w0 [] w' Lo := by
  have H := SH.refl w0
  refine Calls.ofWP Tryz.func24 rfl Tryz.results24 Tryz.ntmps24 rfl ?_
  refine WP.seq ?_
  refine WP.region ?_
  refine OPS.val rfl rfl rfl (Ev.asS rfl) ?_
  refine OPS.val rfl rfl rfl (Ev.asI rfl) ?_
  refine OPS.nil ?_
  refine WP.seq ?_
  refine WP.seq ?_
  refine WP.region ?_
  refine OPS.val rfl rfl rfl (Ev.mvI rfl) ?_
  refine OPS.val rfl rfl rfl (Ev.mvS rfl) ?_
  refine OPS.val rfl rfl rfl (Ev.mvS rfl) ?_
  refine OPS.val rfl rfl rfl (Ev.mvS rfl) ?_
  refine OPS.call (d := some 17) rfl rfl rfl (EvC.func (fun_run rfl)) (capCheck b1 b2 b3 c1 c2 c3 rd hi w0 h1 h2 h3) ?_
  rintro _ w ⟨rfl, hb⟩
  refine ⟨_, rfl, ?_⟩
  replace H := H.toBelow hb; clear hb
  refine OPS.val rfl rfl rfl (Ev.asI rfl) ?_
  refine OPS.nil ?_
  refine WP.seq ?_
  refine WP.region ?_
  refine OPS.val rfl rfl rfl (Ev.mvI rfl) ?_
  refine OPS.val rfl rfl rfl (Ev.neq rfl rfl) ?_
  refine OPS.nil ?_
  refine WP.cond rfl (fun hc2 => ?_) (fun hc2 => ?_)
  · refine WP.seq ?_
    cases hc2
  refine WP.skip ?_
  refine WP.seq ?_
  refine WP.region ?_
  refine OPS.val rfl rfl rfl (Ev.mvI rfl) ?_
  refine OPS.val rfl rfl rfl (Ev.mvS rfl) ?_
  refine OPS.val rfl rfl rfl (Ev.mvS rfl) ?_
  refine OPS.val rfl rfl rfl (Ev.mvS rfl) ?_
  refine OPS.call (d := some 26) rfl rfl rfl (EvC.func (fun_run rfl)) (capApply1 b1 b2 b3 c1 c2 c3 rd hi w (h1.sh H) (h2.sh H) (h3.sh H)) ?_
  rintro _ w ⟨S, c, gm, Lo, rfl, hO, Hc⟩
  refine ⟨_, rfl, ?_⟩
  replace H := SH.call (Lv := []) (by rw [List.append_nil]; exact H) Hc
  clear Hc
  refine OPS.val rfl rfl rfl (Ev.mvT rfl) ?_
  refine OPS.val rfl rfl rfl (Ev.extract rfl rfl) ?_
  refine OPS.val rfl rfl rfl (Ev.extract rfl rfl) ?_
  refine OPS.val rfl rfl rfl (Ev.asS rfl) ?_
  refine OPS.val rfl rfl rfl (Ev.assign) ?_
  refine OPS.nil ?_
  refine WP.seq ?_
  refine WP.region ?_
  refine OPS.val rfl rfl rfl (Ev.mvS rfl) ?_
  refine OPS.val rfl rfl rfl (Ev.asS rfl) ?_
  refine OPS.val rfl rfl rfl (Ev.asI rfl) ?_
  refine OPS.nil ?_
  refine WP.ret ⟨_, rfl, ?_⟩
  exact ⟨S, c, Lo, rfl, hO, H⟩
end Go.Proofs.YtjgdklhbegplfaaGreat
