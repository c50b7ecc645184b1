/-
  Walks: sample, awake, small.
-/
import Derived.Test.YtcgicnfjcndedaaRM4
set_option linter.all false
namespace Go.Proofs.Ytcgicnfjcndedaa
open Go Go.W Go.RowKit

def nightEx (a b c : Nat) : List Value := [I 3, .slice (some ⟨a, 0, none⟩) exL.length 6, .slice (some ⟨b, 0, none⟩) exT.length 1, .slice (some ⟨c, 0, none⟩) exN.length 2, I 10]
theorem lawSample (w0 : World) : Calls Try.prog 24 #[] w0 fun e w' => ∃ a b c : Nat, e = .returned (.agg (nightEx a b c).toArray) ∧ SH w0 [] w' [⟨a, 62, exL.flatMap edgCells⟩, ⟨b, 52, exT.flatMap truckCells⟩, ⟨c, 56, exN.flatMap needCells⟩] := by
  have H := SH.refl w0
  refine Calls.ofWPc Try.func24 rfl Try.results24 Try.ntmps24 rfl ?_
  refine WP.seq ?_
  refine WP.region ?_
  refine OPS.alloc rfl rfl rfl rfl (zero_run rfl) rfl H ?_
  clear H; intro g0 w H
  refine OPS.nil ?_
  refine WP.seq ?_
  refine WP.region ?_
  refine OPS.val rfl rfl rfl (Ev.build (bld_62_0_1_2 rfl rfl rfl)) ?_
  refine OPS.val rfl rfl rfl (Ev.build (bld_62_0_1_2 rfl rfl rfl)) ?_
  refine OPS.val rfl rfl rfl (Ev.build (bld_62_0_1_2 rfl rfl rfl)) ?_
  refine OPS.val rfl rfl rfl (Ev.build (bld_62_0_1_2 rfl rfl rfl)) ?_
  refine OPS.val rfl rfl rfl (Ev.build (bld_62_0_1_2 rfl rfl rfl)) ?_
  refine OPS.val rfl rfl rfl (Ev.build (bld_62_0_1_2 rfl rfl rfl)) ?_
  refine OPS.buildSlice rfl rfl rfl rfl (bsl_22_6_0_1_2_3_4_5 rfl rfl rfl rfl rfl rfl) H ?_
  clear H; intro g8 w H
  refine OPS.val rfl rfl rfl (Ev.build (bld_24_0_1 rfl rfl)) ?_
  refine OPS.alloc rfl rfl rfl rfl (zero_run rfl) rfl H ?_
  clear H; intro g1 w H
  first | refine OPS.store 0 _ rfl rfl rfl (size_run rfl) rfl (cA rfl) rfl rfl H rfl (by simp) ?_ | refine OPS.store 1 _ rfl rfl rfl (size_run rfl) rfl (cA rfl) rfl rfl H rfl (by simp) ?_ | refine OPS.store 2 _ rfl rfl rfl (size_run rfl) rfl (cA rfl) rfl rfl H rfl (by simp) ?_ | refine OPS.store 3 _ rfl rfl rfl (size_run rfl) rfl (cA rfl) rfl rfl H rfl (by simp) ?_ | refine OPS.store 4 _ rfl rfl rfl (size_run rfl) rfl (cA rfl) rfl rfl H rfl (by simp) ?_ | refine OPS.store 5 _ rfl rfl rfl (size_run rfl) rfl (cA rfl) rfl rfl H rfl (by simp) ?_ | refine OPS.store 6 _ rfl rfl rfl (size_run rfl) rfl (cA rfl) rfl rfl H rfl (by simp) ?_ | refine OPS.store 7 _ rfl rfl rfl (size_run rfl) rfl (cA rfl) rfl rfl H rfl (by simp) ?_ | refine OPS.store 8 _ rfl rfl rfl (size_run rfl) rfl (cA rfl) rfl rfl H rfl (by simp) ?_
  clear H; intro w H; try simp only [List.set_cons_zero, List.set_cons_succ, putL, Nat.zero_add] at H
  refine OPS.nil ?_
  refine WP.seq ?_
  refine WP.region ?_
  refine OPS.val rfl rfl rfl ((by first | exact Ev.loadO 0 H rfl (agg_run rfl) (size_run rfl) (by first | assumption | rfl) rfl | exact Ev.loadO 1 H rfl (agg_run rfl) (size_run rfl) (by first | assumption | rfl) rfl | exact Ev.loadO 2 H rfl (agg_run rfl) (size_run rfl) (by first | assumption | rfl) rfl | exact Ev.loadO 3 H rfl (agg_run rfl) (size_run rfl) (by first | assumption | rfl) rfl | exact Ev.loadO 4 H rfl (agg_run rfl) (size_run rfl) (by first | assumption | rfl) rfl | exact Ev.loadO 5 H rfl (agg_run rfl) (size_run rfl) (by first | assumption | rfl) rfl | exact Ev.loadO 6 H rfl (agg_run rfl) (size_run rfl) (by first | assumption | rfl) rfl | (change Ev _ _ _ _ (Op.load 24 (Operand.tmp 1)) _; fail))) ?_
  refine OPS.val rfl rfl rfl (Ev.build (bld_50_0_1 rfl rfl)) ?_
  refine OPS.val rfl rfl rfl (Ev.build (bld_52_1_2 rfl rfl)) ?_
  refine OPS.buildSlice rfl rfl rfl rfl (bsl_25_1_0 rfl) H ?_
  clear H; intro g13 w H
  refine OPS.val rfl rfl rfl (Ev.build (bld_56_0_1 rfl rfl)) ?_
  refine OPS.val rfl rfl rfl (Ev.build (bld_56_0_1 rfl rfl)) ?_
  refine OPS.buildSlice rfl rfl rfl rfl (bsl_26_2_0_1 rfl rfl) H ?_
  clear H; intro g16 w H
  refine OPS.val rfl rfl rfl (Ev.build (bld_28_0_1_2_3 rfl rfl rfl rfl)) ?_
  first | refine OPS.store 0 _ rfl rfl rfl (size_run rfl) rfl (cA rfl) rfl rfl H rfl (by simp) ?_ | refine OPS.store 1 _ rfl rfl rfl (size_run rfl) rfl (cA rfl) rfl rfl H rfl (by simp) ?_ | refine OPS.store 2 _ rfl rfl rfl (size_run rfl) rfl (cA rfl) rfl rfl H rfl (by simp) ?_ | refine OPS.store 3 _ rfl rfl rfl (size_run rfl) rfl (cA rfl) rfl rfl H rfl (by simp) ?_ | refine OPS.store 4 _ rfl rfl rfl (size_run rfl) rfl (cA rfl) rfl rfl H rfl (by simp) ?_ | refine OPS.store 5 _ rfl rfl rfl (size_run rfl) rfl (cA rfl) rfl rfl H rfl (by simp) ?_ | refine OPS.store 6 _ rfl rfl rfl (size_run rfl) rfl (cA rfl) rfl rfl H rfl (by simp) ?_ | refine OPS.store 7 _ rfl rfl rfl (size_run rfl) rfl (cA rfl) rfl rfl H rfl (by simp) ?_ | refine OPS.store 8 _ rfl rfl rfl (size_run rfl) rfl (cA rfl) rfl rfl H rfl (by simp) ?_
  clear H; intro w H; try simp only [List.set_cons_zero, List.set_cons_succ, putL, Nat.zero_add] at H
  refine OPS.nil ?_
  refine WP.ret ⟨[_], ⟨(by first | exact resCellA 0 H rfl (agg_run rfl) (size_run rfl) (by first | assumption | rfl) rfl | exact resCellA 1 H rfl (agg_run rfl) (size_run rfl) (by first | assumption | rfl) rfl | exact resCellA 2 H rfl (agg_run rfl) (size_run rfl) (by first | assumption | rfl) rfl | exact resCellA 3 H rfl (agg_run rfl) (size_run rfl) (by first | assumption | rfl) rfl | exact resCellA 4 H rfl (agg_run rfl) (size_run rfl) (by first | assumption | rfl) rfl | exact resCellA 5 H rfl (agg_run rfl) (size_run rfl) (by first | assumption | rfl) rfl | exact resCellA 6 H rfl (agg_run rfl) (size_run rfl) (by first | assumption | rfl) rfl), trivial⟩, ?_⟩
  exact ⟨g8, g13, g16, rfl, H.reidx [3, 1, 0] (by decide) rfl⟩
section
variable (a b c g : Nat) (w0 : World) (hz : EdgsAt w0 (some ⟨a, 0, none⟩) exL) (ht : RowsAt 4 truckCells w0 (some ⟨b, 0, none⟩) exT) (hn : RowsAt 2 needCells w0 (some ⟨c, 0, none⟩) exN)
include hz ht hn
theorem exWalk1 (hr : IntsAt w0 (some ⟨g, 0, none⟩) [0, 1]) : Calls Try.prog 14 #[.agg (nightEx a b c).toArray, .agg #[I 0, .slice (some ⟨g, 0, none⟩) 2 2]] w0 fun e w' =>
      ∃ (V : Option Addr) (cv : Nat) (Lv : List Blk), e = .returned (.tuple #[.slice V 2 cv, I 1480, I 0]) ∧ OwnS V cv 2 (exV.flatMap visCells) 54 4 Lv ∧ SH w0 [] w' Lv := by
  have h := truckWalkP 3 10 0 _ _ _ _ exL exT exN [0, 1] 6 1 2 2 w0 hz ht hn (by decide) hr (by decide) (by decide)
  rw [exO1, exB1, exE1] at h
  exact h
theorem exDriving1 (hr : IntsAt w0 (some ⟨g, 0, none⟩) [0, 1]) : Calls Try.prog 16 #[.agg (nightEx a b c).toArray, .agg #[I 0, .slice (some ⟨g, 0, none⟩) 2 2]] w0 fun e w' => e = .returned (.tuple #[I 320, I 0]) ∧ Below w0.heap.size w0 w' := by
  have h := truckDriving 3 10 0 _ _ _ _ exL exT exN [0, 1] 6 1 2 2 w0 hz ht hn (by decide) hr (by decide) (by decide)
  rw [exD1, exE1] at h
  exact h
theorem exWalk2 (hr : IntsAt w0 (some ⟨g, 0, none⟩) [1, 0]) : Calls Try.prog 14 #[.agg (nightEx a b c).toArray, .agg #[I 0, .slice (some ⟨g, 0, none⟩) 2 2]] w0 fun e w' =>
      ∃ (V : Option Addr) (nv cv : Nat) (b : Int), e = .returned (.tuple #[.slice V nv cv, I b, I 24]) ∧ Below w0.heap.size w0 w' := by
  have h := truckWalkP 3 10 0 _ _ _ _ exL exT exN [1, 0] 6 1 2 2 w0 hz ht hn (by decide) hr (by decide) (by decide)
  rw [exE2] at h
  exact h.mono fun e w' ⟨V, cv, Lv, h1, _, h2⟩ => ⟨V, _, cv, _, h1, h2.below⟩
theorem exWalk3 (hr : IntsAt w0 (some ⟨g, 0, none⟩) [0, 0]) : Calls Try.prog 14 #[.agg (nightEx a b c).toArray, .agg #[I 0, .slice (some ⟨g, 0, none⟩) 2 2]] w0 fun e w' =>
      ∃ (V : Option Addr) (nv cv : Nat) (b : Int), e = .returned (.tuple #[.slice V nv cv, I b, I 6]) ∧ Below w0.heap.size w0 w' := by
  have h := truckWalkP 3 10 0 _ _ _ _ exL exT exN [0, 0] 6 1 2 2 w0 hz ht hn (by decide) hr (by decide) (by decide)
  rw [exE3] at h
  exact h.mono fun e w' ⟨V, cv, Lv, h1, _, h2⟩ => ⟨V, _, cv, _, h1, h2.below⟩
theorem exFeas1 (q f : Nat) (hr : IntsAt w0 (some ⟨g, 0, none⟩) [0]) (hq : RowsAt 2 rtCells w0 (some ⟨q, 0, none⟩) [⟨0, ⟨some ⟨g, 0, none⟩, 1, [0]⟩⟩]) (hf : IntsAt w0 (some ⟨f, 0, none⟩) [1]) :
    Calls Try.prog 20 #[.agg (nightEx a b c).toArray, .agg #[.slice (some ⟨q, 0, none⟩) 1 1, .slice (some ⟨f, 0, none⟩) 1 1]] w0 fun e w' => e = .returned (I 0) ∧ Below w0.heap.size w0 w' := by
  have h := truckFeasible 3 10 _ _ _ _ _ exL exT exN [⟨0, ⟨some ⟨g, 0, none⟩, 1, [0]⟩⟩] [1] 6 1 2 1 1 w0 hz ht hn (by decide) ⟨hq, fun r h => by simp at h; subst h; exact hr, fun r h => by simp at h; subst h; simp, fun r h => by simp at h; subst h; simp, by simp⟩ hf (by decide) (by decide)
  rw [exP1] at h
  exact h
theorem exFeas2 (f : Nat) (hf : IntsAt w0 (some ⟨f, 0, none⟩) [1]) :
    Calls Try.prog 20 #[.agg (nightEx a b c).toArray, .agg #[.slice none 0 0, .slice (some ⟨f, 0, none⟩) 1 1]] w0 fun e w' => e = .returned (I 7) ∧ Below w0.heap.size w0 w' := by
  have h := truckFeasible 3 10 _ _ _ none _ exL exT exN [] [1] 6 1 2 0 1 w0 hz ht hn (by decide) ⟨RowsAt.nil, by simp, by simp, by simp, by simp⟩ hf (by decide) (by decide)
  rw [exP2] at h
  exact h
theorem exCheck1 : Calls Try.prog 12 #[.agg (nightEx a b c).toArray] w0 fun e w' => e = .returned (I 0) ∧ Below w0.heap.size w0 w' := by
  have h := truckCheck 3 10 _ _ _ exL exT exN 6 1 2 w0 hz ht hn (by decide)
  rw [exNight] at h
  exact h
end

set_option maxHeartbeats 1000000 in
theorem lawAwake (w0 : World) : Calls Try.prog 11 #[] w0 fun e w' => e = .returned (.bool true) ∧ Below w0.heap.size w0 w' := by
  have H := SH.refl w0
  refine Calls.ofWP Try.func11 rfl Try.results11 Try.ntmps11 rfl ?_
  refine WP.seq ?_
  refine WP.region ?_
  refine OPS.val rfl rfl rfl (Ev.asB rfl) ?_
  refine OPS.nil ?_
  refine WP.seq ?_
  refine WP.region ?_
  refine OPS.call (d := some 15) rfl rfl rfl (EvC.func (fun_run rfl)) (lawSample w0) ?_
  rintro _ w ⟨ga, gb, gc, rfl, Hc⟩
  refine ⟨_, rfl, ?_⟩
  replace H := SH.call (L1 := []) (Lv := []) H Hc
  clear Hc
  refine OPS.alloc rfl rfl rfl rfl (zero_run rfl) rfl H ?_
  clear H; intro g1 w H
  first | refine OPS.store 0 _ rfl rfl rfl (size_run rfl) rfl (cA rfl) rfl rfl H rfl (by simp) ?_ | refine OPS.store 1 _ rfl rfl rfl (size_run rfl) rfl (cA rfl) rfl rfl H rfl (by simp) ?_ | refine OPS.store 2 _ rfl rfl rfl (size_run rfl) rfl (cA rfl) rfl rfl H rfl (by simp) ?_ | refine OPS.store 3 _ rfl rfl rfl (size_run rfl) rfl (cA rfl) rfl rfl H rfl (by simp) ?_ | refine OPS.store 4 _ rfl rfl rfl (size_run rfl) rfl (cA rfl) rfl rfl H rfl (by simp) ?_ | refine OPS.store 5 _ rfl rfl rfl (size_run rfl) rfl (cA rfl) rfl rfl H rfl (by simp) ?_ | refine OPS.store 6 _ rfl rfl rfl (size_run rfl) rfl (cA rfl) rfl rfl H rfl (by simp) ?_ | refine OPS.store 7 _ rfl rfl rfl (size_run rfl) rfl (cA rfl) rfl rfl H rfl (by simp) ?_ | refine OPS.store 8 _ rfl rfl rfl (size_run rfl) rfl (cA rfl) rfl rfl H rfl (by simp) ?_
  clear H; intro w H; try simp only [List.set_cons_zero, List.set_cons_succ, putL, Nat.zero_add] at H
  refine OPS.nil ?_
  replace H : SH w0 [] w [⟨g1, 28, nightEx ga gb gc⟩, ⟨ga, 62, exL.flatMap edgCells⟩, ⟨gb, 52, exT.flatMap truckCells⟩, ⟨gc, 56, exN.flatMap needCells⟩] := by (try simp only [List.nil_append, List.append_nil] at H); exact H
  have hzz : ∀ (w : World) (R : List Blk) (i : Nat), SH w0 [] w R → R[i]? = some ⟨ga, 62, exL.flatMap edgCells⟩ → EdgsAt w (some ⟨ga, 0, none⟩) exL := fun w R i H hi => rowsOwn' (enc := edgCells) (sz := 3) (l := exL) (fun _ => rfl) H i hi
  have htt : ∀ (w : World) (R : List Blk) (i : Nat), SH w0 [] w R → R[i]? = some ⟨gb, 52, exT.flatMap truckCells⟩ → RowsAt 4 truckCells w (some ⟨gb, 0, none⟩) exT := fun w R i H hi => rowsOwn' (enc := truckCells) (sz := 4) (l := exT) (fun _ => rfl) H i hi
  have hnn : ∀ (w : World) (R : List Blk) (i : Nat), SH w0 [] w R → R[i]? = some ⟨gc, 56, exN.flatMap needCells⟩ → RowsAt 2 needCells w (some ⟨gc, 0, none⟩) exN := fun w R i H hi => rowsOwn' (enc := needCells) (sz := 2) (l := exN) (fun _ => rfl) H i hi
  refine WP.seq ?_
  refine WP.region ?_
  refine OPS.val rfl rfl rfl ((by first | exact Ev.loadO 0 H rfl (agg_run rfl) (size_run rfl) (by first | assumption | rfl) rfl | exact Ev.loadO 1 H rfl (agg_run rfl) (size_run rfl) (by first | assumption | rfl) rfl | exact Ev.loadO 2 H rfl (agg_run rfl) (size_run rfl) (by first | assumption | rfl) rfl | exact Ev.loadO 3 H rfl (agg_run rfl) (size_run rfl) (by first | assumption | rfl) rfl | exact Ev.loadO 4 H rfl (agg_run rfl) (size_run rfl) (by first | assumption | rfl) rfl | exact Ev.loadO 5 H rfl (agg_run rfl) (size_run rfl) (by first | assumption | rfl) rfl | exact Ev.loadO 6 H rfl (agg_run rfl) (size_run rfl) (by first | assumption | rfl) rfl | (change Ev _ _ _ _ (Op.load 28 (Operand.tmp 1)) _; fail))) ?_
  refine OPS.buildSlice rfl rfl rfl rfl (bsl_33_2_0_1 rfl rfl) H ?_
  clear H; intro g18 w H
  refine OPS.val rfl rfl rfl (Ev.build (bld_35_1 rfl)) ?_
  refine OPS.call (d := some 20) rfl rfl rfl (EvC.func (fun_run rfl)) (exWalk1 ga gb gc g18 w (hzz w _ 2 H rfl) (htt w _ 3 H rfl) (hnn w _ 4 H rfl) (onesOwn (l := [0, 1]) H 0 rfl)) ?_
  rintro _ w ⟨V, cv, Lv, rfl, hO, Hc⟩
  refine ⟨_, rfl, ?_⟩
  replace H := SH.call (Lv := []) (by rw [List.append_nil]; exact H) Hc
  clear Hc
  refine OPS.val rfl rfl rfl (Ev.mvT rfl) ?_
  refine OPS.val rfl rfl rfl (Ev.extract rfl rfl) ?_
  refine OPS.val rfl rfl rfl (Ev.extract rfl rfl) ?_
  refine OPS.val rfl rfl rfl (Ev.extract rfl rfl) ?_
  refine OPS.val rfl rfl rfl (Ev.asS rfl) ?_
  refine OPS.val rfl rfl rfl (Ev.asI rfl) ?_
  refine OPS.val rfl rfl rfl (Ev.asI rfl) ?_
  refine OPS.nil ?_
  replace H : SH w0 [] w ([⟨g1, 28, nightEx ga gb gc⟩, ⟨ga, 62, exL.flatMap edgCells⟩, ⟨gb, 52, exT.flatMap truckCells⟩, ⟨gc, 56, exN.flatMap needCells⟩] ++ Lv) := H.drop (List.Sublist.append (List.sublist_cons_self _ _) (List.Sublist.refl _))
  refine WP.seq ?_
  refine WP.region ?_
  refine OPS.val rfl rfl rfl ((by first | exact Ev.loadO 0 H rfl (agg_run rfl) (size_run rfl) (by first | assumption | rfl) rfl | exact Ev.loadO 1 H rfl (agg_run rfl) (size_run rfl) (by first | assumption | rfl) rfl | exact Ev.loadO 2 H rfl (agg_run rfl) (size_run rfl) (by first | assumption | rfl) rfl | exact Ev.loadO 3 H rfl (agg_run rfl) (size_run rfl) (by first | assumption | rfl) rfl | exact Ev.loadO 4 H rfl (agg_run rfl) (size_run rfl) (by first | assumption | rfl) rfl | exact Ev.loadO 5 H rfl (agg_run rfl) (size_run rfl) (by first | assumption | rfl) rfl | exact Ev.loadO 6 H rfl (agg_run rfl) (size_run rfl) (by first | assumption | rfl) rfl | (change Ev _ _ _ _ (Op.load 28 (Operand.tmp 1)) _; fail))) ?_
  refine OPS.buildSlice rfl rfl rfl rfl (bsl_33_2_0_1 rfl rfl) H ?_
  clear H; intro g26 w H
  refine OPS.val rfl rfl rfl (Ev.build (bld_35_1 rfl)) ?_
  refine OPS.call (d := some 28) rfl rfl rfl (EvC.func (fun_run rfl)) (exDriving1 ga gb gc g26 w (hzz w _ 2 H rfl) (htt w _ 3 H rfl) (hnn w _ 4 H rfl) (onesOwn (l := [0, 1]) H 0 rfl)) ?_
  rintro _ w ⟨rfl, hb⟩
  refine ⟨_, rfl, ?_⟩
  replace H := H.toBelow hb; clear hb
  refine OPS.val rfl rfl rfl (Ev.mvT rfl) ?_
  refine OPS.val rfl rfl rfl (Ev.extract rfl rfl) ?_
  refine OPS.val rfl rfl rfl (Ev.extract rfl rfl) ?_
  refine OPS.val rfl rfl rfl (Ev.asI rfl) ?_
  refine OPS.val rfl rfl rfl (Ev.asI rfl) ?_
  refine OPS.nil ?_
  replace H := H.drop (List.sublist_cons_self _ _)
  refine WP.seq ?_
  refine WP.region ?_
  refine OPS.val rfl rfl rfl ((by first | exact Ev.loadO 0 H rfl (agg_run rfl) (size_run rfl) (by first | assumption | rfl) rfl | exact Ev.loadO 1 H rfl (agg_run rfl) (size_run rfl) (by first | assumption | rfl) rfl | exact Ev.loadO 2 H rfl (agg_run rfl) (size_run rfl) (by first | assumption | rfl) rfl | exact Ev.loadO 3 H rfl (agg_run rfl) (size_run rfl) (by first | assumption | rfl) rfl | exact Ev.loadO 4 H rfl (agg_run rfl) (size_run rfl) (by first | assumption | rfl) rfl | exact Ev.loadO 5 H rfl (agg_run rfl) (size_run rfl) (by first | assumption | rfl) rfl | exact Ev.loadO 6 H rfl (agg_run rfl) (size_run rfl) (by first | assumption | rfl) rfl | (change Ev _ _ _ _ (Op.load 28 (Operand.tmp 1)) _; fail))) ?_
  refine OPS.buildSlice rfl rfl rfl rfl (bsl_33_2_0_1 rfl rfl) H ?_
  clear H; intro g33 w H
  refine OPS.val rfl rfl rfl (Ev.build (bld_35_1 rfl)) ?_
  refine OPS.call (d := some 35) rfl rfl rfl (EvC.func (fun_run rfl)) (exWalk2 ga gb gc g33 w (hzz w _ 2 H rfl) (htt w _ 3 H rfl) (hnn w _ 4 H rfl) (onesOwn (l := [1, 0]) H 0 rfl)) ?_
  rintro _ w ⟨V4, nv4, cv4, b4, rfl, Hc⟩
  refine ⟨_, rfl, ?_⟩
  replace H := H.toBelow Hc
  clear Hc
  refine OPS.val rfl rfl rfl (Ev.mvT rfl) ?_
  refine OPS.val rfl rfl rfl (Ev.extract rfl rfl) ?_
  refine OPS.val rfl rfl rfl (Ev.extract rfl rfl) ?_
  refine OPS.val rfl rfl rfl (Ev.extract rfl rfl) ?_
  refine OPS.val rfl rfl rfl (Ev.asS rfl) ?_
  refine OPS.val rfl rfl rfl (Ev.asI rfl) ?_
  refine OPS.val rfl rfl rfl (Ev.asI rfl) ?_
  refine OPS.nil ?_
  replace H := H.drop (List.sublist_cons_self _ _)
  refine WP.seq ?_
  refine WP.region ?_
  refine OPS.val rfl rfl rfl ((by first | exact Ev.loadO 0 H rfl (agg_run rfl) (size_run rfl) (by first | assumption | rfl) rfl | exact Ev.loadO 1 H rfl (agg_run rfl) (size_run rfl) (by first | assumption | rfl) rfl | exact Ev.loadO 2 H rfl (agg_run rfl) (size_run rfl) (by first | assumption | rfl) rfl | exact Ev.loadO 3 H rfl (agg_run rfl) (size_run rfl) (by first | assumption | rfl) rfl | exact Ev.loadO 4 H rfl (agg_run rfl) (size_run rfl) (by first | assumption | rfl) rfl | exact Ev.loadO 5 H rfl (agg_run rfl) (size_run rfl) (by first | assumption | rfl) rfl | exact Ev.loadO 6 H rfl (agg_run rfl) (size_run rfl) (by first | assumption | rfl) rfl | (change Ev _ _ _ _ (Op.load 28 (Operand.tmp 1)) _; fail))) ?_
  refine OPS.buildSlice rfl rfl rfl rfl (bsl_33_2_0_1 rfl rfl) H ?_
  clear H; intro g41 w H
  refine OPS.val rfl rfl rfl (Ev.build (bld_35_1 rfl)) ?_
  refine OPS.call (d := some 43) rfl rfl rfl (EvC.func (fun_run rfl)) (exWalk3 ga gb gc g41 w (hzz w _ 2 H rfl) (htt w _ 3 H rfl) (hnn w _ 4 H rfl) (onesOwn (l := [0, 0]) H 0 rfl)) ?_
  rintro _ w ⟨V5, nv5, cv5, b5, rfl, Hc⟩
  refine ⟨_, rfl, ?_⟩
  replace H := H.toBelow Hc
  clear Hc
  refine OPS.val rfl rfl rfl (Ev.mvT rfl) ?_
  refine OPS.val rfl rfl rfl (Ev.extract rfl rfl) ?_
  refine OPS.val rfl rfl rfl (Ev.extract rfl rfl) ?_
  refine OPS.val rfl rfl rfl (Ev.extract rfl rfl) ?_
  refine OPS.val rfl rfl rfl (Ev.asS rfl) ?_
  refine OPS.val rfl rfl rfl (Ev.asI rfl) ?_
  refine OPS.val rfl rfl rfl (Ev.asI rfl) ?_
  refine OPS.nil ?_
  replace H := H.drop (List.sublist_cons_self _ _)
  refine WP.seq ?_
  refine WP.region ?_
  refine OPS.val rfl rfl rfl ((by first | exact Ev.loadO 0 H rfl (agg_run rfl) (size_run rfl) (by first | assumption | rfl) rfl | exact Ev.loadO 1 H rfl (agg_run rfl) (size_run rfl) (by first | assumption | rfl) rfl | exact Ev.loadO 2 H rfl (agg_run rfl) (size_run rfl) (by first | assumption | rfl) rfl | exact Ev.loadO 3 H rfl (agg_run rfl) (size_run rfl) (by first | assumption | rfl) rfl | exact Ev.loadO 4 H rfl (agg_run rfl) (size_run rfl) (by first | assumption | rfl) rfl | exact Ev.loadO 5 H rfl (agg_run rfl) (size_run rfl) (by first | assumption | rfl) rfl | exact Ev.loadO 6 H rfl (agg_run rfl) (size_run rfl) (by first | assumption | rfl) rfl | (change Ev _ _ _ _ (Op.load 28 (Operand.tmp 1)) _; fail))) ?_
  refine OPS.buildSlice rfl rfl rfl rfl (bsl_33_1_0 rfl) H ?_
  clear H; intro g48 w H
  refine OPS.val rfl rfl rfl (Ev.build (bld_35_1 rfl)) ?_
  refine OPS.buildSlice rfl rfl rfl rfl (bsl_43_1_0 rfl) H ?_
  clear H; intro g50 w H
  refine OPS.buildSlice rfl rfl rfl rfl (bsl_33_1_0 rfl) H ?_
  clear H; intro g51 w H
  refine OPS.val rfl rfl rfl (Ev.build (bld_45_0_1 rfl rfl)) ?_
  refine OPS.call (d := some 53) rfl rfl rfl (EvC.func (fun_run rfl)) (exFeas1 ga gb gc g48 w (hzz w _ 4 H rfl) (htt w _ 5 H rfl) (hnn w _ 6 H rfl) g50 g51 (onesOwn (l := [0]) H 2 rfl) (rowsOwn' (enc := rtCells) (sz := 2) (l := [⟨0, ⟨some ⟨g48, 0, none⟩, 1, [0]⟩⟩]) (fun _ => rfl) H 1 rfl) (onesOwn (l := [1]) H 0 rfl)) ?_
  rintro _ w ⟨rfl, hb⟩
  refine ⟨_, rfl, ?_⟩
  replace H := H.toBelow hb; clear hb
  refine OPS.val rfl rfl rfl (Ev.asI rfl) ?_
  refine OPS.nil ?_
  replace H := H.drop ((List.sublist_cons_self _ _).trans ((List.sublist_cons_self _ _).trans (List.sublist_cons_self _ _)))
  refine WP.seq ?_
  refine WP.region ?_
  refine OPS.val rfl rfl rfl ((by first | exact Ev.loadO 0 H rfl (agg_run rfl) (size_run rfl) (by first | assumption | rfl) rfl | exact Ev.loadO 1 H rfl (agg_run rfl) (size_run rfl) (by first | assumption | rfl) rfl | exact Ev.loadO 2 H rfl (agg_run rfl) (size_run rfl) (by first | assumption | rfl) rfl | exact Ev.loadO 3 H rfl (agg_run rfl) (size_run rfl) (by first | assumption | rfl) rfl | exact Ev.loadO 4 H rfl (agg_run rfl) (size_run rfl) (by first | assumption | rfl) rfl | exact Ev.loadO 5 H rfl (agg_run rfl) (size_run rfl) (by first | assumption | rfl) rfl | exact Ev.loadO 6 H rfl (agg_run rfl) (size_run rfl) (by first | assumption | rfl) rfl | (change Ev _ _ _ _ (Op.load 28 (Operand.tmp 1)) _; fail))) ?_
  refine OPS.buildSlice rfl rfl rfl rfl (bsl_33_1_0 rfl) H ?_
  clear H; intro g55 w H
  refine OPS.val rfl rfl rfl (Ev.build (bld_45_1 rfl)) ?_
  refine OPS.call (d := some 57) rfl rfl rfl (EvC.func (fun_run rfl)) (exFeas2 ga gb gc w (hzz w _ 2 H rfl) (htt w _ 3 H rfl) (hnn w _ 4 H rfl) g55 (onesOwn (l := [1]) H 0 rfl)) ?_
  rintro _ w ⟨rfl, hb⟩
  refine ⟨_, rfl, ?_⟩
  replace H := H.toBelow hb; clear hb
  refine OPS.val rfl rfl rfl (Ev.asI rfl) ?_
  refine OPS.nil ?_
  replace H := H.drop (List.sublist_cons_self _ _)
  refine WP.seq ?_
  refine WP.seq ?_
  refine WP.region ?_
  refine OPS.val rfl rfl rfl ((by first | exact Ev.loadO 0 H rfl (agg_run rfl) (size_run rfl) (by first | assumption | rfl) rfl | exact Ev.loadO 1 H rfl (agg_run rfl) (size_run rfl) (by first | assumption | rfl) rfl | exact Ev.loadO 2 H rfl (agg_run rfl) (size_run rfl) (by first | assumption | rfl) rfl | exact Ev.loadO 3 H rfl (agg_run rfl) (size_run rfl) (by first | assumption | rfl) rfl | exact Ev.loadO 4 H rfl (agg_run rfl) (size_run rfl) (by first | assumption | rfl) rfl | exact Ev.loadO 5 H rfl (agg_run rfl) (size_run rfl) (by first | assumption | rfl) rfl | exact Ev.loadO 6 H rfl (agg_run rfl) (size_run rfl) (by first | assumption | rfl) rfl | (change Ev _ _ _ _ (Op.load 28 (Operand.tmp 1)) _; fail))) ?_
  refine OPS.call (d := some 59) rfl rfl rfl (EvC.func (fun_run rfl)) (exCheck1 ga gb gc w (hzz w _ 1 H rfl) (htt w _ 2 H rfl) (hnn w _ 3 H rfl)) ?_
  rintro _ w ⟨rfl, hb⟩
  refine ⟨_, rfl, ?_⟩
  replace H := H.toBelow hb; clear hb
  refine OPS.val rfl rfl rfl (Ev.neq rfl rfl) ?_
  refine OPS.val rfl rfl rfl (Ev.mvB rfl) ?_
  refine OPS.gval rfl rfl rfl rfl rfl (fun hg => Ev.mvI (by first | rfl | exact gvE hg rfl)) ?_
  refine OPS.gval rfl rfl rfl rfl rfl (fun hg => Ev.neq (by first | rfl | exact gvE hg rfl) (by first | rfl | exact gvE hg rfl)) ?_
  refine OPS.val rfl rfl rfl ((by first | exact Ev.pickOr rfl rfl rfl | exact Ev.pickAnd rfl rfl rfl)) ?_
  refine OPS.val rfl rfl rfl (Ev.mvB rfl) ?_
  refine OPS.gval rfl rfl rfl rfl rfl (fun hg => Ev.mvI (by first | rfl | exact gvE hg rfl)) ?_
  refine OPS.gval rfl rfl rfl rfl rfl (fun hg => Ev.neq (by first | rfl | exact gvE hg rfl) (by first | rfl | exact gvE hg rfl)) ?_
  refine OPS.val rfl rfl rfl ((by first | exact Ev.pickOr rfl rfl rfl | exact Ev.pickAnd rfl rfl rfl)) ?_
  refine OPS.val rfl rfl rfl (Ev.mvB rfl) ?_
  refine OPS.gval rfl rfl rfl rfl rfl (fun hg => Ev.mvI (by first | rfl | exact gvE hg rfl)) ?_
  refine OPS.gval rfl rfl rfl rfl rfl (fun hg => Ev.neq (by first | rfl | exact gvE hg rfl) (by first | rfl | exact gvE hg rfl)) ?_
  refine OPS.val rfl rfl rfl ((by first | exact Ev.pickOr rfl rfl rfl | exact Ev.pickAnd rfl rfl rfl)) ?_
  refine OPS.val rfl rfl rfl (Ev.mvB rfl) ?_
  refine OPS.gval rfl rfl rfl rfl rfl (fun hg => Ev.mvI (by first | rfl | exact gvE hg rfl)) ?_
  refine OPS.gval rfl rfl rfl rfl rfl (fun hg => Ev.neq (by first | rfl | exact gvE hg rfl) (by first | rfl | exact gvE hg rfl)) ?_
  refine OPS.val rfl rfl rfl ((by first | exact Ev.pickOr rfl rfl rfl | exact Ev.pickAnd rfl rfl rfl)) ?_
  refine OPS.val rfl rfl rfl (Ev.mvB rfl) ?_
  refine OPS.gval rfl rfl rfl rfl rfl (fun hg => Ev.mvI (by first | rfl | exact gvE hg rfl)) ?_
  refine OPS.gval rfl rfl rfl rfl rfl (fun hg => Ev.neq (by first | rfl | exact gvE hg rfl) (by first | rfl | exact gvE hg rfl)) ?_
  refine OPS.val rfl rfl rfl ((by first | exact Ev.pickOr rfl rfl rfl | exact Ev.pickAnd rfl rfl rfl)) ?_
  refine OPS.val rfl rfl rfl (Ev.mvB rfl) ?_
  refine OPS.gval rfl rfl rfl rfl rfl (fun hg => Ev.mvI (by first | rfl | exact gvE hg rfl)) ?_
  refine OPS.gval rfl rfl rfl rfl rfl (fun hg => Ev.neq (by first | rfl | exact gvE hg rfl) (by first | rfl | exact gvE hg rfl)) ?_
  refine OPS.val rfl rfl rfl ((by first | exact Ev.pickOr rfl rfl rfl | exact Ev.pickAnd rfl rfl rfl)) ?_
  refine OPS.nil ?_
  refine WP.cond rfl (fun hc8 => ?_) (fun hc8 => ?_)
  · refine WP.seq ?_
    refine WP.region ?_
    refine OPS.val rfl rfl rfl (Ev.asB rfl) ?_
    refine OPS.nil ?_
    refine WP.ret ⟨_, rfl, ?_⟩
    exact absurd hc8 (by decide)
  refine WP.skip ?_
  refine WP.seq ?_
  refine WP.region ?_
  refine OPS.val rfl rfl rfl (Ev.mvI rfl) ?_
  refine OPS.val rfl rfl rfl (Ev.eql rfl rfl) ?_
  refine OPS.val rfl rfl rfl (Ev.mvB rfl) ?_
  refine OPS.gval rfl rfl rfl rfl rfl (fun hg => Ev.mvI (by first | rfl | exact gvE hg rfl)) ?_
  refine OPS.gval rfl rfl rfl rfl rfl (fun hg => Ev.eql (by first | rfl | exact gvE hg rfl) (by first | rfl | exact gvE hg rfl)) ?_
  refine OPS.val rfl rfl rfl ((by first | exact Ev.pickOr rfl rfl rfl | exact Ev.pickAnd rfl rfl rfl)) ?_
  refine OPS.val rfl rfl rfl (Ev.mvB rfl) ?_
  refine OPS.gyes rfl rfl rfl rfl ?_
  refine OPS.val rfl rfl rfl (Ev.mvS rfl) ?_
  refine OPS.gyes rfl rfl rfl rfl ?_
  refine OPS.val rfl rfl rfl (Ev.build (bld_54_0_1_2_3 rfl rfl rfl rfl)) ?_
  refine OPS.gyes rfl rfl rfl rfl ?_
  refine OPS.val rfl rfl rfl (Ev.build (bld_54_0_1_2_3 rfl rfl rfl rfl)) ?_
  refine OPS.gyes rfl rfl rfl rfl ?_
  refine OPS.buildSlice rfl rfl rfl rfl (bsl_36_2_0_1 rfl rfl) H ?_
  clear H; intro g95 w H
  refine OPS.gyes rfl rfl rfl rfl ?_
  refine OPS.call (d := some 96) rfl rfl rfl (EvC.func (fun_run rfl)) (r42Same V (some ⟨g95, 0, none⟩) exV exV cv 2 w (hO.rows visCells_len (by decide) (R := [⟨g95, 54, exV.flatMap visCells⟩, ⟨g1, 28, nightEx ga gb gc⟩, ⟨ga, 62, exL.flatMap edgCells⟩, ⟨gb, 52, exT.flatMap truckCells⟩, ⟨gc, 56, exN.flatMap needCells⟩]) H).1 (rowsOwn' (enc := visCells) (sz := 4) (l := exV) (fun _ => rfl) H 0 rfl) (by decide)) ?_
  rintro _ w ⟨r, rfl, hr, Hc⟩; refine ⟨_, rfl, ?_⟩
  obtain rfl : r = true := hr.2 rfl
  replace H := H.toBelow Hc
  clear Hc
  refine OPS.val rfl rfl rfl (Ev.pickT (v := .bool true) rfl rfl rfl) ?_
  refine OPS.val rfl rfl rfl (Ev.asB rfl) ?_
  refine OPS.nil ?_
  refine WP.ret ⟨_, rfl, ?_⟩
  exact ⟨rfl, H.below⟩
def smallB (rs : List Rt) (left : List Int) : Bool := !(decide (12 < rs.length) || decide (40 < left.length)) && rs.all fun r => decide (r.nd.l.length ≤ 30)
theorem lawSmall (P F : Option Addr) (rs : List Rt) (left : List Int) (cp cf : Nat) (w0 : World) (hP : RowsAt 2 rtCells w0 P rs) : Calls Try.prog 19 #[.agg #[.slice P rs.length cp, .slice F left.length cf]] w0 fun e w' => e = .returned (.bool (smallB rs left)) ∧ Below w0.heap.size w0 w' := by
  have H := SH.refl w0
  have e1 : decide ((12 : Int) < rs.length) = decide (12 < rs.length) := decide_eq_decide.2 (by omega)
  have e2 : decide ((40 : Int) < left.length) = decide (40 < left.length) := decide_eq_decide.2 (by omega)
  refine Calls.ofWP Try.func19 rfl Try.results19 Try.ntmps19 rfl ?_
  refine WP.seq ?_
  refine WP.region ?_
  refine OPS.box rfl rfl rfl rfl (cA rfl) H ?_
  clear H; intro g1 w H
  refine OPS.val rfl rfl rfl (Ev.asB rfl) ?_
  refine OPS.nil ?_
  refine WP.seq ?_
  refine WP.seq ?_
  refine WP.region ?_
  refine OPS.val rfl rfl rfl (Ev.fieldAddr (fld_run rfl) rfl) ?_
  refine OPS.val rfl rfl rfl (Ev.load1 (agg_run rfl) rfl (by first | exact H.ldL 0 rfl _ rfl | exact H.ldL 1 rfl _ rfl | exact H.ldL 2 rfl _ rfl | exact H.ldL 3 rfl _ rfl | exact H.ldL 4 rfl _ rfl | exact H.ldL 5 rfl _ rfl | exact H.ldL 6 rfl _ rfl | exact H.ldL 7 rfl _ rfl | exact H.ld0 (by assumption) | assumption | exact H.ldS (by assumption) (by assumption))) ?_
  refine OPS.val rfl rfl rfl (Ev.len (el_run rfl) rfl) ?_
  refine OPS.val rfl rfl rfl (Ev.gtr rfl rfl) ?_
  refine OPS.val rfl rfl rfl (Ev.mvB rfl) ?_
  refine OPS.gval rfl rfl rfl rfl rfl (fun hg => Ev.fieldAddr (fld_run rfl) (by first | rfl | exact gvE hg rfl)) ?_
  refine OPS.gval rfl rfl rfl rfl rfl (fun hg => Ev.load1 (agg_run rfl) (by first | rfl | exact gvE hg rfl) (by first | exact H.ldL 0 rfl _ rfl | exact H.ldL 1 rfl _ rfl | exact H.ldL 2 rfl _ rfl | exact H.ldL 3 rfl _ rfl | exact H.ldL 4 rfl _ rfl | exact H.ldL 5 rfl _ rfl | exact H.ldL 6 rfl _ rfl | exact H.ldL 7 rfl _ rfl | exact H.ld0 (by assumption) | assumption | exact H.ldS (by assumption) (by assumption))) ?_
  refine OPS.gval rfl rfl rfl rfl rfl (fun hg => Ev.len (el_run rfl) (by first | rfl | exact gvE hg rfl)) ?_
  refine OPS.gval rfl rfl rfl rfl rfl (fun hg => Ev.gtr (by first | rfl | exact gvE hg rfl) (by first | rfl | exact gvE hg rfl)) ?_
  refine OPS.val rfl rfl rfl ((by first | exact Ev.pickOr rfl rfl rfl | exact Ev.pickAnd rfl rfl rfl)) ?_
  refine OPS.nil ?_
  refine WP.cond rfl (fun hc1 => ?_) (fun hc1 => ?_)
  · refine WP.seq ?_
    refine WP.region ?_
    refine OPS.val rfl rfl rfl (Ev.asB rfl) ?_
    refine OPS.nil ?_
    refine WP.ret ⟨_, rfl, ?_⟩
    rw [e1, e2] at hc1
    exact ⟨by unfold smallB; rw [hc1]; rfl, H.below⟩
  rw [e1, e2] at hc1
  have hl12 : rs.length ≤ 12 := by simp at hc1; omega
  have e0 : smallB rs left = rs.all fun r => decide (r.nd.l.length ≤ 30) := by unfold smallB; rw [hc1]; simp
  refine WP.skip ?_
  refine WP.seq ?_
  refine WP.seq ?_
  refine WP.region ?_
  refine OPS.val rfl rfl rfl (Ev.asI rfl) ?_
  refine OPS.nil ?_
  refine WP.block ?_
  refine WP.loop [2, 3, 14, 15, 16, 17, 18, 19, 20, 21, 22, 23, 24, 25, 26, 27, 28] (fun k e w' => ∃ j : Nat, j + k = rs.length ∧ e 3 = I j ∧ (∀ i (hi : i < rs.length), i < j → rs[i].nd.l.length ≤ 30) ∧ SH w0 [] w' [⟨g1, 45, [.slice P rs.length cp, .slice F left.length cf]⟩]) (rs.length) (⟨0, by omega, rfl, (fun i _ h => absurd h (by omega)), H⟩) ?_
  clear H
  rintro k u w ⟨j, hk, h3, hall, H⟩
  refine WP.know (t := 3) h3 ?_
  refine WP.seq ?_
  refine WP.seq ?_
  refine WP.region ?_
  refine OPS.val rfl rfl rfl (Ev.mvI rfl) ?_
  refine OPS.val rfl rfl rfl (Ev.fieldAddr (fld_run rfl) rfl) ?_
  refine OPS.val rfl rfl rfl (Ev.load1 (agg_run rfl) rfl (by first | exact H.ldL 0 rfl _ rfl | exact H.ldL 1 rfl _ rfl | exact H.ldL 2 rfl _ rfl | exact H.ldL 3 rfl _ rfl | exact H.ldL 4 rfl _ rfl | exact H.ldL 5 rfl _ rfl | exact H.ldL 6 rfl _ rfl | exact H.ldL 7 rfl _ rfl | exact H.ld0 (by assumption) | assumption | exact H.ldS (by assumption) (by assumption))) ?_
  refine OPS.val rfl rfl rfl (Ev.len (el_run rfl) rfl) ?_
  refine OPS.val rfl rfl rfl (Ev.lss rfl rfl) ?_
  refine OPS.nil ?_
  refine WP.cond rfl (fun hc4 => ?_) (fun hc4 => ?_)
  · have hlt : j < rs.length := by simpa using hc4
    obtain ⟨b, o, rfl, hc⟩ := hP j hlt
    have hk1 : w0.cell? ⟨b, o + j * 2 + 1, none⟩ = some (.slice rs[j].nd.A rs[j].nd.l.length rs[j].nd.cap) := hc.2.1
    refine WP.skip ?_
    refine WP.seq ?_
    refine WP.block ?_
    refine WP.seq ?_
    refine WP.region ?_
    refine OPS.val rfl rfl rfl (Ev.fieldAddr (fld_run rfl) rfl) ?_
    refine OPS.val rfl rfl rfl (Ev.load1 (agg_run rfl) rfl (by first | exact H.ldL 0 rfl _ rfl | exact H.ldL 1 rfl _ rfl | exact H.ldL 2 rfl _ rfl | exact H.ldL 3 rfl _ rfl | exact H.ldL 4 rfl _ rfl | exact H.ldL 5 rfl _ rfl | exact H.ldL 6 rfl _ rfl | exact H.ldL 7 rfl _ rfl | exact H.ld0 (by assumption) | assumption | exact H.ldS (by assumption) (by assumption))) ?_
    refine OPS.val rfl rfl rfl (Ev.mvI rfl) ?_
    refine OPS.val rfl rfl rfl ((by first | exact Ev.indexAddr1 (el_run rfl) (size_run rfl) rfl rfl rfl (by omega) | exact Ev.indexAddr (el_run rfl) (size_run rfl) rfl rfl rfl (by omega))) ?_
    refine OPS.val rfl rfl rfl (Ev.fieldAddr (fld_run rfl) rfl) ?_
    refine OPS.val rfl rfl rfl (Ev.load1 (agg_run rfl) rfl (by first | exact H.ldL 0 rfl _ rfl | exact H.ldL 1 rfl _ rfl | exact H.ldL 2 rfl _ rfl | exact H.ldL 3 rfl _ rfl | exact H.ldL 4 rfl _ rfl | exact H.ldL 5 rfl _ rfl | exact H.ldL 6 rfl _ rfl | exact H.ldL 7 rfl _ rfl | exact H.ld0 (by assumption) | assumption | exact H.ldS (by assumption) (by assumption))) ?_
    refine OPS.val rfl rfl rfl (Ev.len (el_run rfl) rfl) ?_
    refine OPS.val rfl rfl rfl (Ev.gtr rfl rfl) ?_
    refine OPS.nil ?_
    refine WP.cond rfl (fun hc6 => ?_) (fun hc6 => ?_)
    · refine WP.seq ?_
      refine WP.region ?_
      refine OPS.val rfl rfl rfl (Ev.asB rfl) ?_
      refine OPS.nil ?_
      refine WP.ret ⟨_, rfl, ?_⟩
      have hb : ¬ rs[j].nd.l.length ≤ 30 := by simp at hc6; omega
      have : smallB rs left = false := by
        rw [e0, List.all_eq_false]
        exact ⟨rs[j], List.getElem_mem hlt, by simpa using hb⟩
      exact ⟨by rw [this]; rfl, H.below⟩
    refine WP.skip ?_
    refine WP.region ?_
    refine OPS.val rfl rfl rfl (Ev.mvI rfl) ?_
    refine OPS.val rfl rfl rfl (Ev.add rfl rfl (by unfold fits; omega)) ?_
    refine OPS.val rfl rfl rfl (Ev.asI rfl) ?_
    refine OPS.nil ?_
    have hb : rs[j].nd.l.length ≤ 30 := by simp at hc6; omega
    refine ⟨(by repeat (first | exact Agree.refl _ _ | exact Agree.mix _ _ _ | refine Agree.upd rfl ?_ | refine Agree.mix2 rfl ?_)), k - 1, by omega, j + 1, by omega, rfl, fun i hi hij => ?_, H⟩
    rcases Nat.lt_succ_iff_lt_or_eq.1 hij with h | rfl
    · exact hall i hi h
    · exact hb
  refine WP.exit ?_
  refine XB.hit ?_
  refine WP.seq ?_
  refine WP.region ?_
  refine OPS.val rfl rfl rfl (Ev.asB rfl) ?_
  refine OPS.nil ?_
  refine WP.ret ⟨_, rfl, ?_⟩
  have hj : j = rs.length := by simp at hc4; omega
  have : smallB rs left = true := by
    rw [e0, List.all_eq_true]
    intro r hr
    obtain ⟨i, hi, rfl⟩ := List.mem_iff_getElem.1 hr
    exact decide_eq_true (hall i hi (by omega))
  exact ⟨by rw [this]; rfl, H.below⟩
end Go.Proofs.Ytcgicnfjcndedaa
