/-
  Walk: the chapter's examples hold.
-/
import Derived.Test.YtkfklebaeifdnaaF17
set_option linter.all false
namespace Go.Proofs.Ytkfklebaeifdnaa
open Go Go.W Go.RowKit

theorem xReads (ga gb gf : Nat) : Reads (xL ga gb gf) fun w => FensAt w (some ⟨gf, 0, none⟩) (xfs ga gb) := fun w0 S w H => by
  unfold xL at H
  have hm : (2 : Nat) ≤ maxLen := by unfold maxLen; omega
  have h4 : (4 : Nat) ≤ maxLen := by unfold maxLen; omega
  have hA : RowsAt 2 ptCells w (some ⟨ga, 0, none⟩) sqL := rowsOwn' (enc := ptCells) (sz := 2) (l := sqL) (fun _ => rfl) H 1 rfl
  have hB : RowsAt 2 ptCells w (some ⟨gb, 0, none⟩) sqL := rowsOwn' (enc := ptCells) (sz := 2) (l := sqL) (fun _ => rfl) H 2 rfl
  refine ⟨rowsOwn' (enc := fenCells) (sz := 6) (l := xfs ga gb) (fun _ => rfl) H 0 rfl, fun f hf => ?_, hm⟩
  rcases List.mem_cons.1 hf with rfl | hf
  · exact ⟨hA, h4⟩
  · rw [List.mem_singleton.1 hf]; exact ⟨hB, h4⟩
theorem xChk (ga gb : Nat) : chkErr (xfs ga gb) = 0 := by kernel_rfl
theorem xAsk1 (ga gb : Nat) : askErr (xfs ga gb) 1 ⟨50, 50⟩ 50 3600 = 0 := by kernel_rfl
theorem xAsk2 (ga gb : Nat) : askErr (xfs ga gb) 1 ⟨50, 50⟩ 51 3600 = 0 := by kernel_rfl
theorem xAsk3 (ga gb : Nat) : askErr (xfs ga gb) 2 ⟨150, 50⟩ 49 0 = 0 := by kernel_rfl
theorem xSel1 (ga gb : Nat) : selL (xfs ga gb) 1 ⟨50, 50⟩ 50 3600 (coverF ⟨50, 50⟩ 50) = [0] := by kernel_rfl
theorem xSel2 (ga gb : Nat) : selL (xfs ga gb) 1 ⟨50, 50⟩ 51 3600 (coverF ⟨50, 50⟩ 51) = [] := by kernel_rfl
theorem xSel3 (ga gb : Nat) : selL (xfs ga gb) 1 ⟨50, 50⟩ 51 3600 (touchF ⟨50, 50⟩ 51) = [0] := by kernel_rfl
theorem xSel4 (ga gb : Nat) : selL (xfs ga gb) 2 ⟨150, 50⟩ 49 0 (touchF ⟨150, 50⟩ 49) = [] := by kernel_rfl
theorem xCha (ga gb : Nat) : chaErr (xfs ga gb) 0 = 0 := by kernel_rfl
def xW : List Wi := [(0, 3600), (3600, 7200), (7200, 86400)]
theorem xWin (ga gb : Nat) : ChaRet (xfs ga gb) 0 xW := by
  refine ⟨fun _ => ?_, fun h => absurd (xCha ga gb) h⟩
  have hend : ∀ t, 0 < t → t < 86400 → Chg (xfs ga gb) t → t = 3600 ∨ t = 7200 := fun t h1 h2 hc => by
    have := chg_end (first := 0) (d := 0) (by omega) (by omega) h1 (by omega) hc
    have he : endsL 0 (xfs ga gb) = [0, 4294944000, 3600, 7200, 0, 4294944000, 0, 86400] := by kernel_rfl
    rw [he] at this
    simp at this; omega
  have c1 : Chg (xfs ga gb) 3600 := by unfold Chg; kernel_rfl
  have c2 : Chg (xfs ga gb) 7200 := by unfold Chg; kernel_rfl
  show Parts (Chg (xfs ga gb)) 86400 0 xW
  refine Parts.cons (by omega) (by omega) c1 (fun t h1 h2 hc => ?_) (Parts.cons (by omega) (by omega) c2 (fun t h1 h2 hc => ?_) (Parts.last (by omega) fun t h1 h2 hc => ?_))
  all_goals
    have := hend t (by omega) (by omega) hc
    omega
theorem xAct (ga : Nat) : activeB (xFen 1 ga 3600 7200) 7200 = false := by kernel_rfl
set_option maxRecDepth 20000 in
set_option maxHeartbeats 4000000 in
theorem lawAwakeF (w0 : World) : Calls Try.prog 10 #[] w0 fun e w' => e = .returned (.bool true) ∧ Below w0.heap.size w0 w' := by
  have H := SH.refl w0
  refine Calls.ofWP Try.func10 rfl Try.results10 Try.ntmps10 rfl ?_
  refine WP.seq ?_
  refine WP.region ?_
  refine OPS.val rfl rfl rfl (Ev.asB rfl) ?_
  refine OPS.nil ?_
  refine WP.seq ?_
  refine WP.region ?_
  refine OPS.call (d := some 13) rfl rfl rfl (EvC.func (fun_run rfl)) (lawTwo w0) ?_
  rintro _ w ⟨ga, gb, gf, rfl, Hc⟩
  refine ⟨_, rfl, ?_⟩
  replace H := SH.call (L1 := []) (Lv := []) H Hc
  clear Hc
  replace H : SH w0 [] w (xL ga gb gf) := H
  have hrd := xReads ga gb gf
  refine OPS.val rfl rfl rfl (Ev.asS rfl) ?_
  refine OPS.nil ?_
  refine WP.seq ?_
  refine WP.region ?_
  refine OPS.val rfl rfl rfl (Ev.build (bld_36_0_1 rfl rfl)) ?_
  refine OPS.val rfl rfl rfl (Ev.build (bld_38_0_1_2_3 rfl rfl rfl rfl)) ?_
  refine OPS.alloc rfl rfl rfl rfl (zero_run rfl) rfl H ?_
  clear H; intro g2 w H
  first | refine OPS.store 0 _ rfl rfl rfl (size_run rfl) rfl (cA rfl) rfl rfl H rfl (by simp) ?_ | refine OPS.store 1 _ rfl rfl rfl (size_run rfl) rfl (cA rfl) rfl rfl H rfl (by simp) ?_ | refine OPS.store 2 _ rfl rfl rfl (size_run rfl) rfl (cA rfl) rfl rfl H rfl (by simp) ?_ | refine OPS.store 3 _ rfl rfl rfl (size_run rfl) rfl (cA rfl) rfl rfl H rfl (by simp) ?_ | refine OPS.store 4 _ rfl rfl rfl (size_run rfl) rfl (cA rfl) rfl rfl H rfl (by simp) ?_ | refine OPS.store 5 _ rfl rfl rfl (size_run rfl) rfl (cA rfl) rfl rfl H rfl (by simp) ?_ | refine OPS.store 6 _ rfl rfl rfl (size_run rfl) rfl (cA rfl) rfl rfl H rfl (by simp) ?_ | refine OPS.store 7 _ rfl rfl rfl (size_run rfl) rfl (cA rfl) rfl rfl H rfl (by simp) ?_ | refine OPS.store 8 _ rfl rfl rfl (size_run rfl) rfl (cA rfl) rfl rfl H rfl (by simp) ?_
  clear H; intro w H; try simp only [List.set_cons_zero, List.set_cons_succ, putL, Nat.zero_add] at H
  refine OPS.nil ?_
  replace H : SH w0 [] w (⟨g2, 38, [I 1, I 50, I 50, I 50, I 3600]⟩ :: xL ga gb gf) := H
  refine WP.seq ?_
  refine WP.region ?_
  refine OPS.val rfl rfl rfl (Ev.mvS rfl) ?_
  refine OPS.val rfl rfl rfl ((by first | exact Ev.loadO 0 H rfl (agg_run rfl) (size_run rfl) (by first | assumption | rfl) rfl | exact Ev.loadO 1 H rfl (agg_run rfl) (size_run rfl) (by first | assumption | rfl) rfl | exact Ev.loadO 2 H rfl (agg_run rfl) (size_run rfl) (by first | assumption | rfl) rfl | exact Ev.loadO 3 H rfl (agg_run rfl) (size_run rfl) (by first | assumption | rfl) rfl | exact Ev.loadO 4 H rfl (agg_run rfl) (size_run rfl) (by first | assumption | rfl) rfl | exact Ev.loadO 5 H rfl (agg_run rfl) (size_run rfl) (by first | assumption | rfl) rfl | exact Ev.loadO 6 H rfl (agg_run rfl) (size_run rfl) (by first | assumption | rfl) rfl | (change Ev _ _ _ _ (Op.load 38 (Operand.tmp 2)) _; fail))) ?_
  refine OPS.call (d := some 19) rfl rfl rfl (EvC.func (fun_run rfl)) (lawSureL (some ⟨gf, 0, none⟩) (xfs ga gb) 2 1 ⟨50, 50⟩ 50 3600 w (hrd.at H (List.sublist_cons_self _ _))) ?_
  rintro _ w ⟨S1, c1, L1, rfl, hM1, Hc⟩
  refine ⟨_, rfl, ?_⟩
  replace H := SH.call (Lv := []) (by rw [List.append_nil]; exact H) Hc
  clear Hc
  rw [xSel1] at hM1
  rw [xSel1, xAsk1]
  simp only [List.cons_append] at H
  refine OPS.val rfl rfl rfl (Ev.mvT rfl) ?_
  refine OPS.val rfl rfl rfl (Ev.extract rfl rfl) ?_
  refine OPS.val rfl rfl rfl (Ev.extract rfl rfl) ?_
  refine OPS.val rfl rfl rfl (Ev.asS rfl) ?_
  refine OPS.val rfl rfl rfl (Ev.asI rfl) ?_
  refine OPS.nil ?_
  refine WP.seq ?_
  refine WP.region ?_
  refine OPS.val rfl rfl rfl (Ev.fieldAddr (fld_run rfl) rfl) ?_
  first | refine OPS.store 0 _ rfl rfl rfl (size_run rfl) rfl (cI rfl) rfl rfl H rfl (by simp) ?_ | refine OPS.store 1 _ rfl rfl rfl (size_run rfl) rfl (cI rfl) rfl rfl H rfl (by simp) ?_ | refine OPS.store 2 _ rfl rfl rfl (size_run rfl) rfl (cI rfl) rfl rfl H rfl (by simp) ?_ | refine OPS.store 3 _ rfl rfl rfl (size_run rfl) rfl (cI rfl) rfl rfl H rfl (by simp) ?_ | refine OPS.store 4 _ rfl rfl rfl (size_run rfl) rfl (cI rfl) rfl rfl H rfl (by simp) ?_ | refine OPS.store 5 _ rfl rfl rfl (size_run rfl) rfl (cI rfl) rfl rfl H rfl (by simp) ?_ | refine OPS.store 6 _ rfl rfl rfl (size_run rfl) rfl (cI rfl) rfl rfl H rfl (by simp) ?_ | refine OPS.store 7 _ rfl rfl rfl (size_run rfl) rfl (cI rfl) rfl rfl H rfl (by simp) ?_ | refine OPS.store 8 _ rfl rfl rfl (size_run rfl) rfl (cI rfl) rfl rfl H rfl (by simp) ?_
  clear H; intro w H; try simp only [List.set_cons_zero, List.set_cons_succ, putL, Nat.zero_add] at H
  refine OPS.nil ?_
  replace H : SH w0 [] w (⟨g2, 38, [I 1, I 50, I 50, I 51, I 3600]⟩ :: (xL ga gb gf ++ L1)) := H
  refine WP.seq ?_
  refine WP.region ?_
  refine OPS.val rfl rfl rfl (Ev.mvS rfl) ?_
  refine OPS.val rfl rfl rfl ((by first | exact Ev.loadO 0 H rfl (agg_run rfl) (size_run rfl) (by first | assumption | rfl) rfl | exact Ev.loadO 1 H rfl (agg_run rfl) (size_run rfl) (by first | assumption | rfl) rfl | exact Ev.loadO 2 H rfl (agg_run rfl) (size_run rfl) (by first | assumption | rfl) rfl | exact Ev.loadO 3 H rfl (agg_run rfl) (size_run rfl) (by first | assumption | rfl) rfl | exact Ev.loadO 4 H rfl (agg_run rfl) (size_run rfl) (by first | assumption | rfl) rfl | exact Ev.loadO 5 H rfl (agg_run rfl) (size_run rfl) (by first | assumption | rfl) rfl | exact Ev.loadO 6 H rfl (agg_run rfl) (size_run rfl) (by first | assumption | rfl) rfl | (change Ev _ _ _ _ (Op.load 38 (Operand.tmp 2)) _; fail))) ?_
  refine OPS.call (d := some 26) rfl rfl rfl (EvC.func (fun_run rfl)) (lawSureL (some ⟨gf, 0, none⟩) (xfs ga gb) 2 1 ⟨50, 50⟩ 51 3600 w (hrd.at H ((List.sublist_append_left _ _).cons _))) ?_
  rintro _ w ⟨S2, c2, L2, rfl, hM2, Hc⟩
  refine ⟨_, rfl, ?_⟩
  replace H := H.toBelow Hc.below
  clear Hc hM2
  rw [xSel2, xAsk2]
  refine OPS.val rfl rfl rfl (Ev.mvT rfl) ?_
  refine OPS.val rfl rfl rfl (Ev.extract rfl rfl) ?_
  refine OPS.val rfl rfl rfl (Ev.extract rfl rfl) ?_
  refine OPS.val rfl rfl rfl (Ev.asS rfl) ?_
  refine OPS.val rfl rfl rfl (Ev.asI rfl) ?_
  refine OPS.nil ?_
  refine WP.seq ?_
  refine WP.region ?_
  refine OPS.val rfl rfl rfl (Ev.mvS rfl) ?_
  refine OPS.val rfl rfl rfl ((by first | exact Ev.loadO 0 H rfl (agg_run rfl) (size_run rfl) (by first | assumption | rfl) rfl | exact Ev.loadO 1 H rfl (agg_run rfl) (size_run rfl) (by first | assumption | rfl) rfl | exact Ev.loadO 2 H rfl (agg_run rfl) (size_run rfl) (by first | assumption | rfl) rfl | exact Ev.loadO 3 H rfl (agg_run rfl) (size_run rfl) (by first | assumption | rfl) rfl | exact Ev.loadO 4 H rfl (agg_run rfl) (size_run rfl) (by first | assumption | rfl) rfl | exact Ev.loadO 5 H rfl (agg_run rfl) (size_run rfl) (by first | assumption | rfl) rfl | exact Ev.loadO 6 H rfl (agg_run rfl) (size_run rfl) (by first | assumption | rfl) rfl | (change Ev _ _ _ _ (Op.load 38 (Operand.tmp 2)) _; fail))) ?_
  refine OPS.call (d := some 32) rfl rfl rfl (EvC.func (fun_run rfl)) (lawPossL (some ⟨gf, 0, none⟩) (xfs ga gb) 2 1 ⟨50, 50⟩ 51 3600 w (hrd.at H ((List.sublist_append_left _ _).cons _))) ?_
  rintro _ w ⟨S3, c3, L3, rfl, hM3, Hc⟩
  refine ⟨_, rfl, ?_⟩
  replace H := SH.call (Lv := []) (by rw [List.append_nil]; exact H) Hc
  clear Hc
  rw [xSel3] at hM3
  rw [xSel3, xAsk2]
  simp only [List.cons_append] at H
  refine OPS.val rfl rfl rfl (Ev.mvT rfl) ?_
  refine OPS.val rfl rfl rfl (Ev.extract rfl rfl) ?_
  refine OPS.val rfl rfl rfl (Ev.extract rfl rfl) ?_
  refine OPS.val rfl rfl rfl (Ev.asS rfl) ?_
  refine OPS.val rfl rfl rfl (Ev.asI rfl) ?_
  refine OPS.nil ?_
  refine WP.seq ?_
  refine WP.region ?_
  refine OPS.val rfl rfl rfl (Ev.build (bld_36_0_1 rfl rfl)) ?_
  refine OPS.val rfl rfl rfl (Ev.build (bld_38_0_1_2 rfl rfl rfl)) ?_
  first | refine OPS.store 0 _ rfl rfl rfl (size_run rfl) rfl (cA rfl) rfl rfl H rfl (by simp) ?_ | refine OPS.store 1 _ rfl rfl rfl (size_run rfl) rfl (cA rfl) rfl rfl H rfl (by simp) ?_ | refine OPS.store 2 _ rfl rfl rfl (size_run rfl) rfl (cA rfl) rfl rfl H rfl (by simp) ?_ | refine OPS.store 3 _ rfl rfl rfl (size_run rfl) rfl (cA rfl) rfl rfl H rfl (by simp) ?_ | refine OPS.store 4 _ rfl rfl rfl (size_run rfl) rfl (cA rfl) rfl rfl H rfl (by simp) ?_ | refine OPS.store 5 _ rfl rfl rfl (size_run rfl) rfl (cA rfl) rfl rfl H rfl (by simp) ?_ | refine OPS.store 6 _ rfl rfl rfl (size_run rfl) rfl (cA rfl) rfl rfl H rfl (by simp) ?_ | refine OPS.store 7 _ rfl rfl rfl (size_run rfl) rfl (cA rfl) rfl rfl H rfl (by simp) ?_ | refine OPS.store 8 _ rfl rfl rfl (size_run rfl) rfl (cA rfl) rfl rfl H rfl (by simp) ?_
  clear H; intro w H; try simp only [List.set_cons_zero, List.set_cons_succ, putL, Nat.zero_add] at H
  refine OPS.nil ?_
  replace H : SH w0 [] w (⟨g2, 38, [I 2, I 150, I 50, I 49, I 0]⟩ :: ((xL ga gb gf ++ L1) ++ L3)) := H
  refine WP.seq ?_
  refine WP.region ?_
  refine OPS.val rfl rfl rfl (Ev.mvS rfl) ?_
  refine OPS.val rfl rfl rfl ((by first | exact Ev.loadO 0 H rfl (agg_run rfl) (size_run rfl) (by first | assumption | rfl) rfl | exact Ev.loadO 1 H rfl (agg_run rfl) (size_run rfl) (by first | assumption | rfl) rfl | exact Ev.loadO 2 H rfl (agg_run rfl) (size_run rfl) (by first | assumption | rfl) rfl | exact Ev.loadO 3 H rfl (agg_run rfl) (size_run rfl) (by first | assumption | rfl) rfl | exact Ev.loadO 4 H rfl (agg_run rfl) (size_run rfl) (by first | assumption | rfl) rfl | exact Ev.loadO 5 H rfl (agg_run rfl) (size_run rfl) (by first | assumption | rfl) rfl | exact Ev.loadO 6 H rfl (agg_run rfl) (size_run rfl) (by first | assumption | rfl) rfl | (change Ev _ _ _ _ (Op.load 38 (Operand.tmp 2)) _; fail))) ?_
  refine OPS.call (d := some 40) rfl rfl rfl (EvC.func (fun_run rfl)) (lawPossL (some ⟨gf, 0, none⟩) (xfs ga gb) 2 2 ⟨150, 50⟩ 49 0 w (hrd.at H (((List.sublist_append_left _ _).trans (List.sublist_append_left _ _)).cons _))) ?_
  rintro _ w ⟨S4, c4, L4, rfl, hM4, Hc⟩
  refine ⟨_, rfl, ?_⟩
  replace H := H.toBelow Hc.below
  clear Hc hM4
  rw [xSel4, xAsk3]
  refine OPS.val rfl rfl rfl (Ev.mvT rfl) ?_
  refine OPS.val rfl rfl rfl (Ev.extract rfl rfl) ?_
  refine OPS.val rfl rfl rfl (Ev.extract rfl rfl) ?_
  refine OPS.val rfl rfl rfl (Ev.asS rfl) ?_
  refine OPS.val rfl rfl rfl (Ev.asI rfl) ?_
  refine OPS.nil ?_
  refine WP.seq ?_
  refine WP.region ?_
  refine OPS.val rfl rfl rfl (Ev.mvS rfl) ?_
  refine OPS.call (d := some 45) rfl rfl rfl (EvC.func (fun_run rfl)) (fenChanges (some ⟨gf, 0, none⟩) (xfs ga gb) 2 0 w (hrd.at H (((List.sublist_append_left _ _).trans (List.sublist_append_left _ _)).cons _))) ?_
  rintro _ w ⟨S5, c5, L5, W, rfl, hW, hM5, Hc⟩
  refine ⟨_, rfl, ?_⟩
  obtain rfl : W = xW := hW.unique (xWin ga gb)
  replace H := SH.call (Lv := []) (by rw [List.append_nil]; exact H) Hc
  clear Hc hW
  rw [xCha]
  simp only [List.cons_append] at H
  refine OPS.val rfl rfl rfl (Ev.mvT rfl) ?_
  refine OPS.val rfl rfl rfl (Ev.extract rfl rfl) ?_
  refine OPS.val rfl rfl rfl (Ev.extract rfl rfl) ?_
  refine OPS.val rfl rfl rfl (Ev.asS rfl) ?_
  refine OPS.val rfl rfl rfl (Ev.asI rfl) ?_
  refine OPS.nil ?_
  refine WP.seq ?_
  refine WP.region ?_
  refine OPS.val rfl rfl rfl (Ev.mvI rfl) ?_
  refine OPS.val rfl rfl rfl (Ev.eql rfl rfl) ?_
  refine OPS.val rfl rfl rfl (Ev.mvB rfl) ?_
  refine OPS.gyes rfl rfl rfl rfl ?_
  refine OPS.val rfl rfl rfl (Ev.mvS rfl) ?_
  refine OPS.gyes rfl rfl rfl rfl ?_
  refine OPS.buildSlice rfl rfl rfl rfl (bsl_39_1_0 rfl) H ?_
  clear H; intro g52 w H
  refine OPS.gyes rfl rfl rfl rfl ?_
  refine OPS.call (d := some 53) rfl rfl rfl (EvC.func (fun_run rfl)) (rSame S1 (some ⟨g52, 0, none⟩) [0] [0] c1 1 w (hM1.at H (((List.sublist_append_right _ _).trans ((List.sublist_append_left _ _).trans (List.sublist_append_left _ _))).cons _ |>.cons _)) (OnesAt.own (l := [0]) H 0 rfl (post := []) rfl) (by decide) (by decide)) ?_
  rintro _ w ⟨rfl, Hc⟩; refine ⟨_, rfl, ?_⟩
  replace H := (H.toBelow Hc).drop (List.sublist_cons_self _ _)
  clear Hc
  refine OPS.val rfl rfl rfl (Ev.pickT (v := .bool true) rfl rfl rfl) ?_
  refine OPS.val rfl rfl rfl (Ev.mvB rfl) ?_
  refine OPS.gval rfl rfl rfl rfl rfl (fun hg => Ev.mvI (by first | rfl | exact gvE hg rfl)) ?_
  refine OPS.gval rfl rfl rfl rfl rfl (fun hg => Ev.eql (by first | rfl | exact gvE hg rfl) (by first | rfl | exact gvE hg rfl)) ?_
  refine OPS.val rfl rfl rfl ((by first | exact Ev.pickOr rfl rfl rfl | exact Ev.pickAnd rfl rfl rfl)) ?_
  refine OPS.val rfl rfl rfl (Ev.mvB rfl) ?_
  refine OPS.gval rfl rfl rfl rfl rfl (fun hg => Ev.mvS (by first | rfl | exact gvE hg rfl)) ?_
  refine OPS.gval rfl rfl rfl rfl rfl (fun hg => Ev.len (el_run rfl) (by first | rfl | exact gvE hg rfl)) ?_
  refine OPS.gval rfl rfl rfl rfl rfl (fun hg => Ev.eql (by first | rfl | exact gvE hg rfl) (by first | rfl | exact gvE hg rfl)) ?_
  refine OPS.val rfl rfl rfl ((by first | exact Ev.pickOr rfl rfl rfl | exact Ev.pickAnd rfl rfl rfl)) ?_
  refine OPS.val rfl rfl rfl (Ev.mvB rfl) ?_
  refine OPS.gval rfl rfl rfl rfl rfl (fun hg => Ev.mvI (by first | rfl | exact gvE hg rfl)) ?_
  refine OPS.gval rfl rfl rfl rfl rfl (fun hg => Ev.eql (by first | rfl | exact gvE hg rfl) (by first | rfl | exact gvE hg rfl)) ?_
  refine OPS.val rfl rfl rfl ((by first | exact Ev.pickOr rfl rfl rfl | exact Ev.pickAnd rfl rfl rfl)) ?_
  refine OPS.val rfl rfl rfl (Ev.mvB rfl) ?_
  refine OPS.gyes rfl rfl rfl rfl ?_
  refine OPS.val rfl rfl rfl (Ev.mvS rfl) ?_
  refine OPS.gyes rfl rfl rfl rfl ?_
  refine OPS.buildSlice rfl rfl rfl rfl (bsl_39_1_0 rfl) H ?_
  clear H; intro g70 w H
  refine OPS.gyes rfl rfl rfl rfl ?_
  refine OPS.call (d := some 71) rfl rfl rfl (EvC.func (fun_run rfl)) (rSame S3 (some ⟨g70, 0, none⟩) [0] [0] c3 1 w (hM3.at H (((List.sublist_append_right _ _).trans (List.sublist_append_left _ _)).cons _ |>.cons _)) (OnesAt.own (l := [0]) H 0 rfl (post := []) rfl) (by decide) (by decide)) ?_
  rintro _ w ⟨rfl, Hc⟩; refine ⟨_, rfl, ?_⟩
  replace H := (H.toBelow Hc).drop (List.sublist_cons_self _ _)
  clear Hc
  refine OPS.val rfl rfl rfl (Ev.pickT (v := .bool true) rfl rfl rfl) ?_
  refine OPS.val rfl rfl rfl (Ev.mvB rfl) ?_
  refine OPS.gval rfl rfl rfl rfl rfl (fun hg => Ev.mvI (by first | rfl | exact gvE hg rfl)) ?_
  refine OPS.gval rfl rfl rfl rfl rfl (fun hg => Ev.eql (by first | rfl | exact gvE hg rfl) (by first | rfl | exact gvE hg rfl)) ?_
  refine OPS.val rfl rfl rfl ((by first | exact Ev.pickOr rfl rfl rfl | exact Ev.pickAnd rfl rfl rfl)) ?_
  refine OPS.val rfl rfl rfl (Ev.mvB rfl) ?_
  refine OPS.gval rfl rfl rfl rfl rfl (fun hg => Ev.mvS (by first | rfl | exact gvE hg rfl)) ?_
  refine OPS.gval rfl rfl rfl rfl rfl (fun hg => Ev.len (el_run rfl) (by first | rfl | exact gvE hg rfl)) ?_
  refine OPS.gval rfl rfl rfl rfl rfl (fun hg => Ev.eql (by first | rfl | exact gvE hg rfl) (by first | rfl | exact gvE hg rfl)) ?_
  refine OPS.val rfl rfl rfl ((by first | exact Ev.pickOr rfl rfl rfl | exact Ev.pickAnd rfl rfl rfl)) ?_
  refine OPS.val rfl rfl rfl (Ev.mvB rfl) ?_
  refine OPS.gval rfl rfl rfl rfl rfl (fun hg => Ev.mvI (by first | rfl | exact gvE hg rfl)) ?_
  refine OPS.gval rfl rfl rfl rfl rfl (fun hg => Ev.eql (by first | rfl | exact gvE hg rfl) (by first | rfl | exact gvE hg rfl)) ?_
  refine OPS.val rfl rfl rfl ((by first | exact Ev.pickOr rfl rfl rfl | exact Ev.pickAnd rfl rfl rfl)) ?_
  refine OPS.val rfl rfl rfl (Ev.mvB rfl) ?_
  refine OPS.gyes rfl rfl rfl rfl ?_
  refine OPS.val rfl rfl rfl (Ev.mvS rfl) ?_
  refine OPS.gyes rfl rfl rfl rfl ?_
  refine OPS.val rfl rfl rfl (Ev.build (bld_26_0_1 rfl rfl)) ?_
  refine OPS.gyes rfl rfl rfl rfl ?_
  refine OPS.val rfl rfl rfl (Ev.build (bld_26_0_1 rfl rfl)) ?_
  refine OPS.gyes rfl rfl rfl rfl ?_
  refine OPS.val rfl rfl rfl (Ev.build (bld_26_0_1 rfl rfl)) ?_
  refine OPS.gyes rfl rfl rfl rfl ?_
  refine OPS.buildSlice rfl rfl rfl rfl (bsl_45_3_0_1_2 rfl rfl rfl) H ?_
  clear H; intro g91 w H
  refine OPS.gyes rfl rfl rfl rfl ?_
  refine OPS.call (d := some 92) rfl rfl rfl (EvC.func (fun_run rfl)) (rSameW S5 (some ⟨g91, 0, none⟩) xW xW c5 3 w (hM5.at H ((List.sublist_append_right _ _).cons _ |>.cons _)) (rowsOwn' (enc := wiCells) (sz := 2) (l := xW) (fun _ => rfl) H 0 rfl) (by decide) (by decide)) ?_
  rintro _ w ⟨rfl, Hc⟩; refine ⟨_, rfl, ?_⟩
  replace H := (H.toBelow Hc).drop (List.sublist_cons_self _ _)
  clear Hc
  obtain ⟨b, o, e9, hcx⟩ := (hrd.at H ((((List.sublist_append_left _ _).trans (List.sublist_append_left _ _)).trans (List.sublist_append_left _ _)).cons _)).rows 0 (Nat.zero_lt_succ 1)
  cases e9
  refine OPS.val rfl rfl rfl (Ev.pickT (v := .bool true) rfl rfl rfl) ?_
  refine OPS.val rfl rfl rfl (Ev.mvB rfl) ?_
  refine OPS.gval rfl rfl rfl rfl rfl (fun hg => Ev.mvS (by first | rfl | exact gvE hg rfl)) ?_
  refine OPS.gval rfl rfl rfl rfl rfl (fun hg => (by first | exact Ev.indexAddr1 (el_run rfl) (size_run rfl) (by first | rfl | exact gvE hg rfl) (by first | rfl | exact gvE hg rfl) rfl (by decide) | exact Ev.indexAddr (el_run rfl) (size_run rfl) (by first | rfl | exact gvE hg rfl) (by first | rfl | exact gvE hg rfl) rfl (by decide))) ?_
  refine OPS.gval rfl rfl rfl rfl rfl (fun hg => (by first | exact Ev.loadO 0 H rfl (agg_run rfl) (size_run rfl) (by first | assumption | rfl) rfl | exact Ev.loadO 1 H rfl (agg_run rfl) (size_run rfl) (by first | assumption | rfl) rfl | exact Ev.loadO 2 H rfl (agg_run rfl) (size_run rfl) (by first | assumption | rfl) rfl | exact Ev.loadO 3 H rfl (agg_run rfl) (size_run rfl) (by first | assumption | rfl) rfl | exact Ev.loadO 4 H rfl (agg_run rfl) (size_run rfl) (by first | assumption | rfl) rfl | exact Ev.loadO 5 H rfl (agg_run rfl) (size_run rfl) (by first | assumption | rfl) rfl | exact Ev.loadO 6 H rfl (agg_run rfl) (size_run rfl) (by first | assumption | rfl) rfl | (change Ev _ _ _ _ (Op.load 28 (Operand.tmp 96)) _; exact Ev.loadN (fenCells (xFen 1 ga 3600 7200)) (agg_run rfl) (size_run rfl) (gvE hg rfl) hcx))) ?_
  refine OPS.gcall0 (f := 13) (fenActive (xFen 1 ga 3600 7200) 7200 w) (fun _ _ h => h) rfl rfl rfl rfl rfl (fun hg => EvC.conv (EvC.func (fun_run rfl)) (l2 (by first | rfl | exact gvE hg rfl) (by first | rfl | exact gvE hg rfl))) ?_
  intro w hbc; replace H := H.toBelow hbc
  refine OPS.gval rfl rfl rfl rfl rfl (fun hg => Ev.not (by first | rfl | exact gvE hg rfl)) ?_
  refine OPS.val rfl rfl rfl ((by first | exact Ev.pickOr rfl rfl rfl | exact Ev.pickAnd rfl rfl rfl)) ?_
  refine OPS.val rfl rfl rfl (Ev.mvB rfl) ?_
  refine OPS.gval rfl rfl rfl rfl rfl (fun hg => Ev.mvS (by first | rfl | exact gvE hg rfl)) ?_
  refine OPS.gcall0 (f := 11) (fenCheck (some ⟨gf, 0, none⟩) (xfs ga gb) 2 w (hrd.at H ((((List.sublist_append_left _ _).trans (List.sublist_append_left _ _)).trans (List.sublist_append_left _ _)).cons _))) (fun _ _ h => h) rfl rfl rfl rfl rfl (fun hg => EvC.conv (EvC.func (fun_run rfl)) (l1 (by first | rfl | exact gvE hg rfl))) ?_
  intro w hbc; replace H := H.toBelow hbc
  refine OPS.gval rfl rfl rfl rfl rfl (fun hg => Ev.eql (by first | rfl | exact gvE hg rfl) (by first | rfl | exact gvE hg rfl)) ?_
  refine OPS.val rfl rfl rfl ((by first | exact Ev.pickOr rfl rfl rfl | exact Ev.pickAnd rfl rfl rfl)) ?_
  refine OPS.val rfl rfl rfl (Ev.asB rfl) ?_
  refine OPS.nil ?_
  refine WP.ret ⟨_, rfl, ?_⟩
  exact ⟨ret_b rfl (by rw [xAct, xChk]; rfl), H.below⟩
end Go.Proofs.Ytkfklebaeifdnaa
