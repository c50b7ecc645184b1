/-
  Walk: awake.
-/
import Derived.Test.YtfddebpeiilohaaP2
set_option linter.all false
namespace Go.Proofs.Ytfddebpeiilohaa
open Go Go.W Go.RowKit

section
variable (a b c g : Nat) (w0 : World) (hz : EdgsAt w0 (some ⟨a, 0, none⟩) xL) (ht : RowsAt 4 truckCells w0 (some ⟨b, 0, none⟩) xT) (hn : RowsAt 2 needCells w0 (some ⟨c, 0, none⟩) xN)
include hz ht hn
theorem xcBest2 (hr : IntsAt w0 (some ⟨g, 0, none⟩) [1, 0]) : Calls Try.prog 11 #[.agg (nightX a b c).toArray, I 0, .slice (some ⟨g, 0, none⟩) 2 2] w0 fun e w' =>
      ∃ (X : Option Addr) (cx : Nat) (Lf : List Blk), e = .returned (.tuple #[.agg #[I 0, .slice X 2 cx], I 0]) ∧ OwnS X cx 2 (([0, 1] : List Int).map I) 3 1 Lf ∧ SH w0 [] w' Lf := by
  refine (routeBestX 3 1 0 _ _ _ _ xL xT xN [1, 0] 5 1 2 2 w0 hz ht hn (by decide) hr (by decide)).mono ?_
  rintro e w' ⟨er, r0, x, X, cx, Lf, rfl, hA, hO, hS⟩
  obtain ⟨rfl, rfl, rfl⟩ := xBest2 hA
  exact ⟨X, cx, Lf, rfl, hO, hS⟩
theorem xcBest1 (hr : IntsAt w0 (some ⟨g, 0, none⟩) [1]) : Calls Try.prog 11 #[.agg (nightX a b c).toArray, I 0, .slice (some ⟨g, 0, none⟩) 1 1] w0 fun e w' =>
      ∃ (r0 : Int) (X : Option Addr) (nx cx : Nat), e = .returned (.tuple #[.agg #[I r0, .slice X nx cx], I 10]) ∧ Below w0.heap.size w0 w' := by
  refine (routeBestX 3 1 0 _ _ _ _ xL xT xN [1] 5 1 2 1 w0 hz ht hn (by decide) hr (by decide)).mono ?_
  rintro e w' ⟨er, r0, x, X, cx, Lf, rfl, hA, hO, hS⟩
  obtain rfl := xBest1 hA
  exact ⟨r0, X, _, cx, rfl, hS.below⟩
theorem xcMost1 (hr : IntsAt w0 (some ⟨g, 0, none⟩) [1]) : Calls Try.prog 14 #[.agg (nightX a b c).toArray, I 0, .slice (some ⟨g, 0, none⟩) 1 1] w0 fun e w' =>
      ∃ (r0 : Int) (X : Option Addr) (cx : Nat), e = .returned (.tuple #[.agg #[I r0, .slice X 0 cx], I 0]) ∧ Below w0.heap.size w0 w' := by
  refine (routeMostX 3 1 0 _ _ _ _ xL xT xN [1] 5 1 2 1 w0 hz ht hn (by decide) hr (by decide)).mono ?_
  rintro e w' ⟨er, r0, x, X, cx, Lf, rfl, hA, hO, hS⟩
  obtain ⟨rfl, rfl⟩ := xMost1 hA
  exact ⟨r0, X, cx, rfl, hS.below⟩
theorem xcMoved (hr : IntsAt w0 (some ⟨g, 0, none⟩) [0, 1]) : Calls Try.prog 16 #[.agg (nightX a b c).toArray, .slice (some ⟨g, 0, none⟩) 2 2] w0 fun e w' => e = .returned (.tuple #[I 8, I 0]) ∧ Below w0.heap.size w0 w' := by
  have h := routeMovedX 3 1 _ _ _ _ xL xT xN [0, 1] 5 1 2 2 w0 hz ht hn (by decide) hr (by decide)
  rw [xMoved.1, xMoved.2] at h
  exact h
end
set_option maxHeartbeats 2000000 in
theorem lawAwakeR (w0 : World) : Calls Try.prog 10 #[] w0 fun e w' => e = .returned (.bool true) ∧ Below w0.heap.size w0 w' := by
  have H := SH.refl w0
  have hzz : ∀ (ga : Nat) (w : World) (R : List Blk) (i : Nat), SH w0 [] w R → R[i]? = some ⟨ga, 72, xL.flatMap edgCells⟩ → EdgsAt w (some ⟨ga, 0, none⟩) xL := fun ga w R i H hi => rowsOwn' (enc := edgCells) (sz := 3) (l := xL) (fun _ => rfl) H i hi
  have htt : ∀ (gb : Nat) (w : World) (R : List Blk) (i : Nat), SH w0 [] w R → R[i]? = some ⟨gb, 54, xT.flatMap truckCells⟩ → RowsAt 4 truckCells w (some ⟨gb, 0, none⟩) xT := fun gb w R i H hi => rowsOwn' (enc := truckCells) (sz := 4) (l := xT) (fun _ => rfl) H i hi
  have hnn : ∀ (gc : Nat) (w : World) (R : List Blk) (i : Nat), SH w0 [] w R → R[i]? = some ⟨gc, 64, xN.flatMap needCells⟩ → RowsAt 2 needCells w (some ⟨gc, 0, none⟩) xN := fun gc w R i H hi => rowsOwn' (enc := needCells) (sz := 2) (l := xN) (fun _ => rfl) H i hi
  refine Calls.ofWP Try.func10 rfl Try.results10 Try.ntmps10 rfl ?_
  refine WP.seq ?_
  refine WP.region ?_
  refine OPS.val rfl rfl rfl (Ev.asB rfl) ?_
  refine OPS.nil ?_
  refine WP.seq ?_
  refine WP.region ?_
  refine OPS.call (d := some 10) rfl rfl rfl (EvC.func (fun_run rfl)) (lawShort w0) ?_
  rintro _ w ⟨ga, gb, gc, rfl, Hc⟩
  refine ⟨_, rfl, ?_⟩
  replace H := Hc
  clear Hc
  refine OPS.buildSlice rfl rfl rfl rfl (bsl_29_2_0_1 rfl rfl) H ?_
  clear H; intro g11 w H
  refine OPS.call (d := some 12) rfl rfl rfl (EvC.func (fun_run rfl)) (xcBest2 ga gb gc g11 w (hzz ga w _ 1 H rfl) (htt gb w _ 2 H rfl) (hnn gc w _ 3 H rfl) (onesOwn (l := [1, 0]) H 0 rfl)) ?_
  rintro _ w ⟨X, cX, Lf, rfl, hOX, Hc⟩
  refine ⟨_, rfl, ?_⟩
  replace H := SH.call (L1 := []) (Lv := []) (H.drop (List.nil_sublist _)) Hc
  clear Hc
  simp only [List.nil_append] at H
  refine OPS.val rfl rfl rfl (Ev.mvT rfl) ?_
  refine OPS.val rfl rfl rfl (Ev.extract rfl rfl) ?_
  refine OPS.val rfl rfl rfl (Ev.extract rfl rfl) ?_
  refine OPS.alloc rfl rfl rfl rfl (zero_run rfl) rfl H ?_
  clear H; intro g1 w H
  refine OPS.store 0 _ rfl rfl rfl (size_run rfl) rfl (cA rfl) rfl rfl H rfl (by simp) ?_
  clear H; intro w H; try simp only [List.set_cons_zero, List.set_cons_succ, putL, Nat.zero_add] at H
  refine OPS.val rfl rfl rfl (Ev.asI rfl) ?_
  refine OPS.nil ?_
  refine WP.seq ?_
  refine WP.region ?_
  refine OPS.call (d := some 16) rfl rfl rfl (EvC.func (fun_run rfl)) (lawShort w) ?_
  rintro _ w ⟨ga, gb, gc, rfl, Hc⟩
  refine ⟨_, rfl, ?_⟩
  replace H := (SH.call (L1 := _ :: Lf) (Lv := []) (by rw [List.append_nil]; exact H) Hc).perm List.perm_append_comm
  clear Hc
  simp only [List.cons_append, List.nil_append] at H
  refine OPS.buildSlice rfl rfl rfl rfl (bsl_29_1_0 rfl) H ?_
  clear H; intro g17 w H
  refine OPS.call (d := some 18) rfl rfl rfl (EvC.func (fun_run rfl)) (xcBest1 ga gb gc g17 w (hzz ga w _ 1 H rfl) (htt gb w _ 2 H rfl) (hnn gc w _ 3 H rfl) (onesOwn (l := [1]) H 0 rfl)) ?_
  rintro _ w ⟨r2, X2, n2, c2, rfl, hb⟩
  refine ⟨_, rfl, ?_⟩
  replace H := (H.toBelow hb).drop (((((List.Sublist.refl _).cons _).cons _).cons _).cons _)
  clear hb
  refine OPS.val rfl rfl rfl (Ev.mvT rfl) ?_
  refine OPS.val rfl rfl rfl (Ev.extract rfl rfl) ?_
  refine OPS.val rfl rfl rfl (Ev.extract rfl rfl) ?_
  refine OPS.alloc rfl rfl rfl rfl (zero_run rfl) rfl H ?_
  clear H; intro g3 w H
  refine OPS.store 0 _ rfl rfl rfl (size_run rfl) rfl (cA rfl) rfl rfl H rfl (by simp) ?_
  clear H; intro w H; try simp only [List.set_cons_zero, List.set_cons_succ, putL, Nat.zero_add] at H
  refine OPS.val rfl rfl rfl (Ev.asI rfl) ?_
  refine OPS.nil ?_
  replace H := H.drop (List.sublist_cons_self _ _)
  refine WP.seq ?_
  refine WP.region ?_
  refine OPS.call (d := some 22) rfl rfl rfl (EvC.func (fun_run rfl)) (lawShort w) ?_
  rintro _ w ⟨ga, gb, gc, rfl, Hc⟩
  refine ⟨_, rfl, ?_⟩
  replace H := (SH.call (L1 := _ :: Lf) (Lv := []) (by rw [List.append_nil]; exact H) Hc).perm List.perm_append_comm
  clear Hc
  simp only [List.cons_append, List.nil_append] at H
  refine OPS.buildSlice rfl rfl rfl rfl (bsl_29_1_0 rfl) H ?_
  clear H; intro g23 w H
  refine OPS.call (d := some 24) rfl rfl rfl (EvC.func (fun_run rfl)) (xcMost1 ga gb gc g23 w (hzz ga w _ 1 H rfl) (htt gb w _ 2 H rfl) (hnn gc w _ 3 H rfl) (onesOwn (l := [1]) H 0 rfl)) ?_
  rintro _ w ⟨r3, X3, c3, rfl, hb⟩
  refine ⟨_, rfl, ?_⟩
  replace H := (H.toBelow hb).drop (((((List.Sublist.refl _).cons _).cons _).cons _).cons _)
  clear hb
  refine OPS.val rfl rfl rfl (Ev.mvT rfl) ?_
  refine OPS.val rfl rfl rfl (Ev.extract rfl rfl) ?_
  refine OPS.val rfl rfl rfl (Ev.extract rfl rfl) ?_
  refine OPS.alloc rfl rfl rfl rfl (zero_run rfl) rfl H ?_
  clear H; intro g5 w H
  refine OPS.store 0 _ rfl rfl rfl (size_run rfl) rfl (cA rfl) rfl rfl H rfl (by simp) ?_
  clear H; intro w H; try simp only [List.set_cons_zero, List.set_cons_succ, putL, Nat.zero_add] at H
  refine OPS.val rfl rfl rfl (Ev.asI rfl) ?_
  refine OPS.nil ?_
  refine WP.seq ?_
  refine WP.region ?_
  refine OPS.call (d := some 28) rfl rfl rfl (EvC.func (fun_run rfl)) (lawShort w) ?_
  rintro _ w ⟨ga, gb, gc, rfl, Hc⟩
  refine ⟨_, rfl, ?_⟩
  replace H := (SH.call (L1 := _ :: _ :: Lf) (Lv := []) (by rw [List.append_nil]; exact H) Hc).perm List.perm_append_comm
  clear Hc
  simp only [List.cons_append, List.nil_append] at H
  refine OPS.buildSlice rfl rfl rfl rfl (bsl_29_2_0_1 rfl rfl) H ?_
  clear H; intro g29 w H
  refine OPS.call (d := some 30) rfl rfl rfl (EvC.func (fun_run rfl)) (xcMoved ga gb gc g29 w (hzz ga w _ 1 H rfl) (htt gb w _ 2 H rfl) (hnn gc w _ 3 H rfl) (onesOwn (l := [0, 1]) H 0 rfl)) ?_
  rintro _ w ⟨rfl, hb⟩
  refine ⟨_, rfl, ?_⟩
  replace H := (H.toBelow hb).drop (((((List.Sublist.refl _).cons _).cons _).cons _).cons _)
  clear hb
  refine OPS.val rfl rfl rfl (Ev.mvT rfl) ?_
  refine OPS.val rfl rfl rfl (Ev.extract rfl rfl) ?_
  refine OPS.val rfl rfl rfl (Ev.extract rfl rfl) ?_
  refine OPS.val rfl rfl rfl (Ev.asI rfl) ?_
  refine OPS.val rfl rfl rfl (Ev.asI rfl) ?_
  refine OPS.nil ?_
  refine WP.seq ?_
  refine WP.region ?_
  refine OPS.val rfl rfl rfl (Ev.mvI rfl) ?_
  refine OPS.val rfl rfl rfl (Ev.eql rfl rfl) ?_
  refine OPS.val rfl rfl rfl (Ev.mvB rfl) ?_
  refine OPS.gyes rfl rfl rfl rfl ?_
  refine OPS.val rfl rfl rfl (Ev.loadO 1 H rfl (agg_run rfl) (size_run rfl) rfl rfl) ?_
  refine OPS.gyes rfl rfl rfl rfl ?_
  refine OPS.buildSlice rfl rfl rfl rfl (bsl_29_2_0_1 rfl rfl) H ?_
  clear H; intro g37 w H
  refine OPS.gyes rfl rfl rfl rfl ?_
  refine OPS.val rfl rfl rfl (Ev.build (bld_34_1 rfl)) ?_
  refine OPS.gyes rfl rfl rfl rfl ?_
  refine OPS.call (d := some 39) rfl rfl rfl (EvC.func (fun_run rfl)) (rSame 0 0 X (some ⟨g37, 0, none⟩) [0, 1] [0, 1] cX 2 w (hOX.ones (R := [_, _, _]) H).1 (onesOwn (l := [0, 1]) H 0 rfl) (by decide) (by decide)) ?_
  rintro _ w ⟨rfl, hb'⟩
  refine ⟨_, rfl, ?_⟩
  replace H := H.toBelow hb'; clear hb'
  refine OPS.val rfl rfl rfl (Ev.pickT (v := .bool true) rfl rfl rfl) ?_
  refine OPS.val rfl rfl rfl (Ev.mvB rfl) ?_
  refine OPS.gval rfl rfl rfl rfl rfl (fun hg => Ev.mvI (by rfl)) ?_
  refine OPS.gval rfl rfl rfl rfl rfl (fun hg => Ev.eql (by exact gvE hg rfl) (by rfl)) ?_
  refine OPS.val rfl rfl rfl ((by exact Ev.pickAnd rfl rfl rfl)) ?_
  refine OPS.val rfl rfl rfl (Ev.mvB rfl) ?_
  refine OPS.gval rfl rfl rfl rfl rfl (fun hg => Ev.mvI (by rfl)) ?_
  refine OPS.gval rfl rfl rfl rfl rfl (fun hg => Ev.eql (by exact gvE hg rfl) (by rfl)) ?_
  refine OPS.val rfl rfl rfl ((by exact Ev.pickAnd rfl rfl rfl)) ?_
  refine OPS.val rfl rfl rfl (Ev.mvB rfl) ?_
  refine OPS.gval rfl rfl rfl rfl rfl (fun hg => Ev.fieldAddr (fld_run rfl) (by rfl)) ?_
  refine OPS.gval rfl rfl rfl rfl rfl (fun hg => Ev.load1 (agg_run rfl) (by exact gvE hg rfl) (by exact H.ldL 1 rfl _ rfl)) ?_
  refine OPS.gval rfl rfl rfl rfl rfl (fun hg => Ev.len (el_run rfl) (by exact gvE hg rfl)) ?_
  refine OPS.gval rfl rfl rfl rfl rfl (fun hg => Ev.eql (by exact gvE hg rfl) (by rfl)) ?_
  refine OPS.val rfl rfl rfl ((by exact Ev.pickAnd rfl rfl rfl)) ?_
  refine OPS.val rfl rfl rfl (Ev.mvB rfl) ?_
  refine OPS.gval rfl rfl rfl rfl rfl (fun hg => Ev.mvI (by rfl)) ?_
  refine OPS.gval rfl rfl rfl rfl rfl (fun hg => Ev.eql (by exact gvE hg rfl) (by rfl)) ?_
  refine OPS.val rfl rfl rfl ((by exact Ev.pickAnd rfl rfl rfl)) ?_
  refine OPS.val rfl rfl rfl (Ev.mvB rfl) ?_
  refine OPS.gval rfl rfl rfl rfl rfl (fun hg => Ev.mvI (by rfl)) ?_
  refine OPS.gval rfl rfl rfl rfl rfl (fun hg => Ev.eql (by exact gvE hg rfl) (by rfl)) ?_
  refine OPS.val rfl rfl rfl ((by exact Ev.pickAnd rfl rfl rfl)) ?_
  refine OPS.val rfl rfl rfl (Ev.asB rfl) ?_
  refine OPS.nil ?_
  refine WP.ret ⟨_, rfl, ?_⟩
  exact ⟨rfl, H.below⟩
end Go.Proofs.Ytfddebpeiilohaa
