/-
  Walks: the check of a polygon, where a point lies, what a disc touches and what covers it.
-/
import Derived.Test.YtkfklebaeifdnaaF4
set_option linter.all false
namespace Go.Proofs.Ytkfklebaeifdnaa
open Go Go.W Go.RowKit

theorem polyErr_ok {l : List Pt} (h : polyErr l = 0) : 3 ≤ l.length ∧ l.length ≤ 32 ∧ (∀ p ∈ l, PtR p) ∧ simpleB (edgesL l) = true := by
  unfold polyErr at h
  split at h
  · cases h
  rename_i h1
  split at h
  · cases h
  rename_i h2
  split at h
  · cases h
  rename_i h3
  refine ⟨by omega, by omega, fun p hp => ptOk_iff.1 ?_, by simpa using h3⟩
  have h2 : l.all ptOk = true := by simpa using h2
  exact List.all_eq_true.1 h2 p hp
set_option maxHeartbeats 1000000 in
theorem geoCheck (A : Option Addr) (l : List Pt) (cap : Nat) (w0 : World) (hz : RowsAt 2 ptCells w0 A l) :
    Calls Try.prog 28 #[.slice A l.length cap] w0 fun e w' => e = .returned (I (polyErr l)) ∧ Below w0.heap.size w0 w' := by
  have H := SH.refl w0
  refine Calls.ofWP Try.func28 rfl Try.results28 Try.ntmps28 rfl ?_
  refine WP.seq ?_
  refine WP.region ?_
  refine OPS.val rfl rfl rfl (Ev.asI rfl) ?_
  refine OPS.nil ?_
  refine WP.seq ?_
  refine WP.seq ?_
  refine WP.region ?_
  refine OPS.val rfl rfl rfl (Ev.mvS rfl) ?_
  refine OPS.val rfl rfl rfl (Ev.len (el_run rfl) rfl) ?_
  refine OPS.val rfl rfl rfl (Ev.lss rfl rfl) ?_
  refine OPS.val rfl rfl rfl (Ev.mvB rfl) ?_
  refine OPS.gval rfl rfl rfl rfl rfl (fun hg => Ev.mvS (by first | rfl | exact gvE hg rfl)) ?_
  refine OPS.gval rfl rfl rfl rfl rfl (fun hg => Ev.len (el_run rfl) (by first | rfl | exact gvE hg rfl)) ?_
  refine OPS.gval rfl rfl rfl rfl rfl (fun hg => Ev.gtr (by first | rfl | exact gvE hg rfl) (by first | rfl | exact gvE hg rfl)) ?_
  refine OPS.val rfl rfl rfl ((by first | exact Ev.pickOr rfl rfl rfl | exact Ev.pickAnd rfl rfl rfl)) ?_
  refine OPS.nil ?_
  refine WP.cond rfl (fun hc1 => ?_) (fun hc1 => ?_)
  · refine WP.seq ?_
    refine WP.region ?_
    refine OPS.val rfl rfl rfl (Ev.asI rfl) ?_
    refine OPS.nil ?_
    refine WP.ret ⟨_, rfl, ?_⟩
    have h : l.length < 3 ∨ 32 < l.length := by simp at hc1; omega
    exact ⟨ret_int (by rw [polyErr, if_pos h]), H.below⟩
  have hn : ¬ (l.length < 3 ∨ 32 < l.length) := by simp at hc1; omega
  refine WP.skip ?_
  refine WP.seq ?_
  refine WP.seq ?_
  refine WP.region ?_
  refine OPS.val rfl rfl rfl (Ev.mvS rfl) ?_
  refine OPS.val rfl rfl rfl (Ev.len (el_run rfl) rfl) ?_
  refine OPS.val rfl rfl rfl (Ev.mvI rfl) ?_
  refine OPS.nil ?_
  refine WP.block ?_
  refine WP.loop [2, 4, 15, 16, 17, 18, 19, 20, 21, 22] (fun k e w' => ∃ (i : Nat), i + k = l.length ∧ e 15 = I i ∧ (∀ i' (h : i' < l.length), i' < i → ptOk l[i'] = true) ∧ SH w0 [] w' []) (l.length) (⟨0, by omega, rfl, fun _ _ h => absurd h (by omega), H⟩) ?_
  clear H
  rintro k u w ⟨i, hk, h15, hall, H⟩
  refine WP.know (t := 15) h15 ?_
  refine WP.seq ?_
  refine WP.region ?_
  refine OPS.val rfl rfl rfl (Ev.lss rfl rfl) ?_
  refine OPS.nil ?_
  refine WP.seq ?_
  refine WP.cond rfl (fun hc4 => ?_) (fun hc4 => ?_)
  · have hlt : i < l.length := by simpa using hc4
    obtain ⟨b, o, rfl, hcx⟩ := hz i hlt
    have hc' := cellsAt_sh H hcx
    obtain ⟨p, hp⟩ : ∃ p, p = l[i] := ⟨_, rfl⟩
    rw [← hp] at hc'
    refine WP.skip ?_
    refine WP.seq ?_
    refine WP.block ?_
    refine WP.seq ?_
    refine WP.region ?_
    refine OPS.val rfl rfl rfl ((by first | exact Ev.indexAddr1 (el_run rfl) (size_run rfl) rfl rfl rfl (by omega) | exact Ev.indexAddr (el_run rfl) (size_run rfl) rfl rfl rfl (by omega))) ?_
    refine OPS.val rfl rfl rfl ((by first | exact Ev.loadO 0 H rfl (agg_run rfl) (size_run rfl) (by first | assumption | rfl) rfl | exact Ev.loadO 1 H rfl (agg_run rfl) (size_run rfl) (by first | assumption | rfl) rfl | exact Ev.loadO 2 H rfl (agg_run rfl) (size_run rfl) (by first | assumption | rfl) rfl | exact Ev.loadO 3 H rfl (agg_run rfl) (size_run rfl) (by first | assumption | rfl) rfl | exact Ev.loadO 4 H rfl (agg_run rfl) (size_run rfl) (by first | assumption | rfl) rfl | exact Ev.loadO 5 H rfl (agg_run rfl) (size_run rfl) (by first | assumption | rfl) rfl | exact Ev.loadO 6 H rfl (agg_run rfl) (size_run rfl) (by first | assumption | rfl) rfl | exact Ev.loadN [_, _] (agg_run rfl) (size_run rfl) rfl ⟨H.ldL 0 rfl _ rfl, H.ldL 0 rfl _ rfl, trivial⟩ | exact Ev.loadN [_, _] (agg_run rfl) (size_run rfl) rfl ⟨H.ldL 1 rfl _ rfl, H.ldL 1 rfl _ rfl, trivial⟩ | exact Ev.loadN [_, _] (agg_run rfl) (size_run rfl) rfl ⟨H.ldL 2 rfl _ rfl, H.ldL 2 rfl _ rfl, trivial⟩ | exact Ev.loadN [_, _] (agg_run rfl) (size_run rfl) rfl ⟨H.ldL 3 rfl _ rfl, H.ldL 3 rfl _ rfl, trivial⟩ | exact Ev.loadN [_, _] (agg_run rfl) (size_run rfl) rfl ⟨H.ldL 4 rfl _ rfl, H.ldL 4 rfl _ rfl, trivial⟩ | (change Ev _ _ _ _ (Op.load 36 (Operand.tmp 17)) _; exact Ev.loadN (ptCells p) (agg_run rfl) (size_run rfl) rfl hc'))) ?_
    refine OPS.alloc rfl rfl rfl rfl (zero_run rfl) rfl H ?_
    clear H; intro g4 w H
    first | refine OPS.store 0 _ rfl rfl rfl (size_run rfl) rfl (cA rfl) rfl rfl H rfl (by simp) ?_ | refine OPS.store 1 _ rfl rfl rfl (size_run rfl) rfl (cA rfl) rfl rfl H rfl (by simp) ?_ | refine OPS.store 2 _ rfl rfl rfl (size_run rfl) rfl (cA rfl) rfl rfl H rfl (by simp) ?_ | refine OPS.store 3 _ rfl rfl rfl (size_run rfl) rfl (cA rfl) rfl rfl H rfl (by simp) ?_ | refine OPS.store 4 _ rfl rfl rfl (size_run rfl) rfl (cA rfl) rfl rfl H rfl (by simp) ?_ | refine OPS.store 5 _ rfl rfl rfl (size_run rfl) rfl (cA rfl) rfl rfl H rfl (by simp) ?_ | refine OPS.store 6 _ rfl rfl rfl (size_run rfl) rfl (cA rfl) rfl rfl H rfl (by simp) ?_ | refine OPS.store 7 _ rfl rfl rfl (size_run rfl) rfl (cA rfl) rfl rfl H rfl (by simp) ?_ | refine OPS.store 8 _ rfl rfl rfl (size_run rfl) rfl (cA rfl) rfl rfl H rfl (by simp) ?_
    clear H; intro w H; try simp only [List.set_cons_zero, List.set_cons_succ, putL, Nat.zero_add] at H
    refine OPS.nil ?_
    refine WP.seq ?_
    dsimp only [ptCells] at H
    refine WP.region ?_
    refine OPS.val rfl rfl rfl ((by first | exact Ev.loadO 0 H rfl (agg_run rfl) (size_run rfl) (by first | assumption | rfl) rfl | exact Ev.loadO 1 H rfl (agg_run rfl) (size_run rfl) (by first | assumption | rfl) rfl | exact Ev.loadO 2 H rfl (agg_run rfl) (size_run rfl) (by first | assumption | rfl) rfl | exact Ev.loadO 3 H rfl (agg_run rfl) (size_run rfl) (by first | assumption | rfl) rfl | exact Ev.loadO 4 H rfl (agg_run rfl) (size_run rfl) (by first | assumption | rfl) rfl | exact Ev.loadO 5 H rfl (agg_run rfl) (size_run rfl) (by first | assumption | rfl) rfl | exact Ev.loadO 6 H rfl (agg_run rfl) (size_run rfl) (by first | assumption | rfl) rfl | exact Ev.loadN [_, _] (agg_run rfl) (size_run rfl) rfl ⟨H.ldL 0 rfl _ rfl, H.ldL 0 rfl _ rfl, trivial⟩ | exact Ev.loadN [_, _] (agg_run rfl) (size_run rfl) rfl ⟨H.ldL 1 rfl _ rfl, H.ldL 1 rfl _ rfl, trivial⟩ | exact Ev.loadN [_, _] (agg_run rfl) (size_run rfl) rfl ⟨H.ldL 2 rfl _ rfl, H.ldL 2 rfl _ rfl, trivial⟩ | exact Ev.loadN [_, _] (agg_run rfl) (size_run rfl) rfl ⟨H.ldL 3 rfl _ rfl, H.ldL 3 rfl _ rfl, trivial⟩ | exact Ev.loadN [_, _] (agg_run rfl) (size_run rfl) rfl ⟨H.ldL 4 rfl _ rfl, H.ldL 4 rfl _ rfl, trivial⟩ | (change Ev _ _ _ _ (Op.load 36 (Operand.tmp 4)) _; fail))) ?_
    refine OPS.call (d := some 20) rfl rfl rfl (EvC.func (fun_run rfl)) (geoValid p w) ?_
    rintro _ w ⟨rfl, hb⟩
    refine ⟨_, rfl, ?_⟩
    replace H := H.toBelow hb; clear hb
    refine OPS.val rfl rfl rfl (Ev.not rfl) ?_
    refine OPS.nil ?_
    refine WP.cond rfl (fun hc6 => ?_) (fun hc6 => ?_)
    · refine WP.seq ?_
      refine WP.region ?_
      refine OPS.val rfl rfl rfl (Ev.asI rfl) ?_
      refine OPS.nil ?_
      refine WP.ret ⟨_, rfl, ?_⟩
      have hv : ptOk p = false := by simpa using hc6
      refine ⟨ret_int ?_, H.below⟩
      rw [polyErr, if_neg hn, if_pos (by rw [List.all_eq_false]; exact ⟨p, by rw [hp]; exact List.getElem_mem hlt, by rw [hv]; simp⟩)]
    have hv : ptOk p = true := by simpa using hc6
    refine WP.skip ?_
    refine WP.region ?_
    refine OPS.val rfl rfl rfl (Ev.add rfl rfl (by unfold fits; omega)) ?_
    refine OPS.val rfl rfl rfl (Ev.mvI rfl) ?_
    refine OPS.nil ?_
    exact ⟨(by repeat (first | exact Agree.refl _ _ | exact Agree.mix _ _ _ | refine Agree.upd rfl ?_ | refine Agree.mix2 rfl ?_)), k - 1, by omega, i + 1, by omega, rfl, (fun i' h1 h2 => by
      rcases Nat.lt_or_eq_of_le (Nat.le_of_lt_succ h2) with h | rfl
      · exact hall i' h1 h
      · rw [← hp]; exact hv), H.drop (List.nil_sublist _)⟩
  have hi : i = l.length := by simp at hc4; omega
  have hok : ∀ p ∈ l, PtR p := fun p hp => by
    obtain ⟨j, hj, rfl⟩ := List.mem_iff_getElem.1 hp
    exact ptOk_iff.1 (hall j hj (by omega))
  have hall2 : ¬ l.all ptOk = false := by
    have : l.all ptOk = true := List.all_eq_true.2 fun p hp => ptOk_iff.2 (hok p hp)
    rw [this]; simp
  have hEok := edgesL_ok hok
  have hEl := edgesL_len l
  refine WP.exit ?_
  refine XB.hit ?_
  refine WP.seq ?_
  refine WP.block ?_
  refine WP.seq ?_
  refine WP.region ?_
  refine OPS.val rfl rfl rfl (Ev.mvS rfl) ?_
  refine OPS.call (d := some 25) rfl rfl rfl (EvC.func (fun_run rfl)) (geoEdges A l cap w (hz.sh H) (by omega)) ?_
  rintro _ w ⟨S, c, L, rfl, hO, Hc⟩
  refine ⟨_, rfl, ?_⟩
  replace H := SH.call (L1 := []) (Lv := []) H Hc
  clear Hc
  simp only [List.nil_append] at H
  have hEz : RowsAt 4 edgeCells w S (edgesL l) := (hO.rows (R := []) (l := edgesL l) edgeCells_len (by decide) H).1
  have hcap : l.length ≤ c := by rcases hO.form with ⟨_, q, _, _⟩ | ⟨_, _, _, _, q, _, _⟩ <;> omega
  have hsim := geoSimple S (edgesL l) c w hEz (by omega) (by omega) hEok
  rw [hEl] at hsim
  refine OPS.call (d := some 26) rfl rfl rfl (EvC.func (fun_run rfl)) (hsim) ?_
  rintro _ w ⟨rfl, hb⟩
  refine ⟨_, rfl, ?_⟩
  replace H := H.toBelow hb; clear hb
  refine OPS.val rfl rfl rfl (Ev.not rfl) ?_
  refine OPS.val rfl rfl rfl (Ev.asB rfl) ?_
  refine OPS.nil ?_
  refine WP.cond rfl (fun hc9 => ?_) (fun hc9 => ?_)
  · refine WP.seq ?_
    refine WP.region ?_
    refine OPS.val rfl rfl rfl (Ev.asI rfl) ?_
    refine OPS.nil ?_
    refine WP.ret ⟨_, rfl, ?_⟩
    have h : simpleB (edgesL l) = false := by simpa using hc9
    exact ⟨ret_int (by rw [polyErr, if_neg hn, if_neg hall2, if_pos h]), H.below⟩
  have h3 : ¬ simpleB (edgesL l) = false := by simpa using hc9
  refine WP.seq ?_
  refine WP.region ?_
  refine OPS.val rfl rfl rfl (Ev.mvS rfl) ?_
  refine OPS.call (d := some 30) rfl rfl rfl (EvC.func (fun_run rfl)) (geoTwice A l cap w (hz.sh H) (by omega) hok) ?_
  rintro _ w ⟨rfl, hb⟩
  refine ⟨_, rfl, ?_⟩
  replace H := H.toBelow hb; clear hb
  refine OPS.val rfl rfl rfl (Ev.lss rfl rfl) ?_
  refine OPS.val rfl rfl rfl (Ev.asB rfl) ?_
  refine OPS.nil ?_
  refine WP.cond rfl (fun hc11 => ?_) (fun hc11 => ?_)
  · refine WP.seq ?_
    refine WP.region ?_
    refine OPS.val rfl rfl rfl (Ev.asI rfl) ?_
    refine OPS.nil ?_
    refine WP.ret ⟨_, rfl, ?_⟩
    have h : twiceL (edgesL l) < 0 := by simpa using hc11
    exact ⟨ret_int (by rw [polyErr, if_neg hn, if_neg hall2, if_neg h3, if_pos h]), H.below⟩
  refine WP.skip ?_
  refine WP.seq ?_
  refine WP.region ?_
  refine OPS.val rfl rfl rfl (Ev.asI rfl) ?_
  refine OPS.nil ?_
  refine WP.ret ⟨_, rfl, ?_⟩
  have h : ¬ twiceL (edgesL l) < 0 := by simpa using hc11
  exact ⟨ret_int (by rw [polyErr, if_neg hn, if_neg hall2, if_neg h3, if_neg h]), H.below⟩
set_option maxHeartbeats 1000000 in
theorem geoWhere (A : Option Addr) (l : List Pt) (cap : Nat) (c : Pt) (w0 : World) (hz : RowsAt 2 ptCells w0 A l) (hl : l.length ≤ 1000) (hp : ∀ p ∈ l, PtR p) (hc : PtR c) :
    Calls Try.prog 95 #[.slice A l.length cap, .agg #[I c.x, I c.y]] w0 fun e w' => e = .returned (I (whereV c (-1) (edgesL l))) ∧ Below w0.heap.size w0 w' := by
  have H := SH.refl w0
  have hok := edgesL_ok hp
  have hEl := edgesL_len l
  refine Calls.ofWP Try.func95 rfl Try.results95 Try.ntmps95 rfl ?_
  refine WP.seq ?_
  refine WP.region ?_
  refine OPS.box rfl rfl rfl rfl (cA rfl) H ?_
  clear H; intro g3 w H
  refine OPS.val rfl rfl rfl (Ev.asI rfl) ?_
  refine OPS.nil ?_
  refine WP.seq ?_
  refine WP.region ?_
  refine OPS.val rfl rfl rfl (Ev.asI rfl) ?_
  refine OPS.nil ?_
  refine WP.seq ?_
  refine WP.seq ?_
  refine WP.region ?_
  refine OPS.val rfl rfl rfl (Ev.mvS rfl) ?_
  refine OPS.call (d := some 9) rfl rfl rfl (EvC.func (fun_run rfl)) (geoEdges A l cap w (hz.sh H) hl) ?_
  rintro _ w ⟨S, ce, L, rfl, hO, Hc⟩
  refine ⟨_, rfl, ?_⟩
  replace H := SH.call (Lv := []) (by rw [List.append_nil]; exact H) Hc
  clear Hc
  simp only [List.cons_append, List.nil_append] at H
  have hEz : ∀ w R, SH w0 [] w (R ++ L) → RowsAt 4 edgeCells w S (edgesL l) := fun w R H => (hO.rows (l := edgesL l) edgeCells_len (by decide) H).1
  refine OPS.val rfl rfl rfl (Ev.len (el_run rfl) rfl) ?_
  refine OPS.val rfl rfl rfl (Ev.mvI rfl) ?_
  refine OPS.nil ?_
  refine WP.block ?_
  refine WP.loop [4, 5, 7, 11, 12, 13, 14, 15, 16, 17, 18, 19, 20, 21, 22, 23, 24, 25, 26, 27, 28, 29, 30, 31, 32, 33, 34, 35, 36, 37, 38, 39, 40, 41, 42, 43, 44, 45, 46, 47, 48, 49, 50] (fun k e w' => ∃ (j : Nat) (o : Int), j + k = l.length ∧ e 11 = I j ∧ e 5 = I o ∧ whereV c o ((edgesL l).drop j) = whereV c (-1) (edgesL l) ∧ (o = 1 ∨ o = -1) ∧ SH w0 [] w' (⟨g3, 36, [I c.x, I c.y]⟩ :: L)) (l.length) (⟨0, -1, by omega, rfl, rfl, by simp, by omega, H⟩) ?_
  clear H
  rintro k u w ⟨j, o, hk, h11, h5, hs, ho, H⟩
  refine WP.know (t := 11) h11 (WP.know (t := 5) h5 ?_)
  refine WP.seq ?_
  refine WP.region ?_
  refine OPS.val rfl rfl rfl (Ev.lss rfl rfl) ?_
  refine OPS.nil ?_
  refine WP.seq ?_
  refine WP.cond rfl (fun hc3 => ?_) (fun hc3 => ?_)
  · have hlt : j < l.length := by simpa using hc3
    have hlt2 : j < (edgesL l).length := by omega
    obtain ⟨b, of, rfl, hcx⟩ := hEz w [_] H j hlt2
    have hx' := hok (edgesL l)[j] (List.getElem_mem hlt2)
    rw [dropE hlt2, whereV] at hs
    obtain ⟨x, hx⟩ : ∃ x, x = (edgesL l)[j] := ⟨_, rfl⟩
    rw [← hx] at hs hcx hx'
    refine WP.skip ?_
    refine WP.seq ?_
    refine WP.block ?_
    refine WP.seq ?_
    refine WP.region ?_
    refine OPS.val rfl rfl rfl ((by first | exact Ev.indexAddr1 (el_run rfl) (size_run rfl) rfl rfl rfl (by omega) | exact Ev.indexAddr (el_run rfl) (size_run rfl) rfl rfl rfl (by omega))) ?_
    refine OPS.val rfl rfl rfl ((by first | exact Ev.loadO 0 H rfl (agg_run rfl) (size_run rfl) (by first | assumption | rfl) rfl | exact Ev.loadO 1 H rfl (agg_run rfl) (size_run rfl) (by first | assumption | rfl) rfl | exact Ev.loadO 2 H rfl (agg_run rfl) (size_run rfl) (by first | assumption | rfl) rfl | exact Ev.loadO 3 H rfl (agg_run rfl) (size_run rfl) (by first | assumption | rfl) rfl | exact Ev.loadO 4 H rfl (agg_run rfl) (size_run rfl) (by first | assumption | rfl) rfl | exact Ev.loadO 5 H rfl (agg_run rfl) (size_run rfl) (by first | assumption | rfl) rfl | exact Ev.loadO 6 H rfl (agg_run rfl) (size_run rfl) (by first | assumption | rfl) rfl | (change Ev _ _ _ _ (Op.load 87 (Operand.tmp 13)) _; exact Ev.loadN (edgeCells x) (agg_run rfl) (size_run rfl) rfl hcx))) ?_
    refine OPS.alloc rfl rfl rfl rfl (zero_run rfl) rfl H ?_
    clear H; intro g7 w H
    first | refine OPS.store 0 _ rfl rfl rfl (size_run rfl) rfl (cA rfl) rfl rfl H rfl (by simp) ?_ | refine OPS.store 1 _ rfl rfl rfl (size_run rfl) rfl (cA rfl) rfl rfl H rfl (by simp) ?_ | refine OPS.store 2 _ rfl rfl rfl (size_run rfl) rfl (cA rfl) rfl rfl H rfl (by simp) ?_ | refine OPS.store 3 _ rfl rfl rfl (size_run rfl) rfl (cA rfl) rfl rfl H rfl (by simp) ?_ | refine OPS.store 4 _ rfl rfl rfl (size_run rfl) rfl (cA rfl) rfl rfl H rfl (by simp) ?_ | refine OPS.store 5 _ rfl rfl rfl (size_run rfl) rfl (cA rfl) rfl rfl H rfl (by simp) ?_ | refine OPS.store 6 _ rfl rfl rfl (size_run rfl) rfl (cA rfl) rfl rfl H rfl (by simp) ?_ | refine OPS.store 7 _ rfl rfl rfl (size_run rfl) rfl (cA rfl) rfl rfl H rfl (by simp) ?_ | refine OPS.store 8 _ rfl rfl rfl (size_run rfl) rfl (cA rfl) rfl rfl H rfl (by simp) ?_
    clear H; intro w H; try simp only [List.set_cons_zero, List.set_cons_succ, putL, Nat.zero_add] at H
    refine OPS.nil ?_
    refine WP.seq ?_
    refine WP.seq ?_
    dsimp only [edgeCells] at H
    refine WP.region ?_
    refine OPS.val rfl rfl rfl ((by first | exact Ev.loadO 0 H rfl (agg_run rfl) (size_run rfl) (by first | assumption | rfl) rfl | exact Ev.loadO 1 H rfl (agg_run rfl) (size_run rfl) (by first | assumption | rfl) rfl | exact Ev.loadO 2 H rfl (agg_run rfl) (size_run rfl) (by first | assumption | rfl) rfl | exact Ev.loadO 3 H rfl (agg_run rfl) (size_run rfl) (by first | assumption | rfl) rfl | exact Ev.loadO 4 H rfl (agg_run rfl) (size_run rfl) (by first | assumption | rfl) rfl | exact Ev.loadO 5 H rfl (agg_run rfl) (size_run rfl) (by first | assumption | rfl) rfl | exact Ev.loadO 6 H rfl (agg_run rfl) (size_run rfl) (by first | assumption | rfl) rfl | (change Ev _ _ _ _ (Op.load 87 (Operand.tmp 7)) _; fail))) ?_
    refine OPS.val rfl rfl rfl ((by first | exact Ev.loadO 0 H rfl (agg_run rfl) (size_run rfl) (by first | assumption | rfl) rfl | exact Ev.loadO 1 H rfl (agg_run rfl) (size_run rfl) (by first | assumption | rfl) rfl | exact Ev.loadO 2 H rfl (agg_run rfl) (size_run rfl) (by first | assumption | rfl) rfl | exact Ev.loadO 3 H rfl (agg_run rfl) (size_run rfl) (by first | assumption | rfl) rfl | exact Ev.loadO 4 H rfl (agg_run rfl) (size_run rfl) (by first | assumption | rfl) rfl | exact Ev.loadO 5 H rfl (agg_run rfl) (size_run rfl) (by first | assumption | rfl) rfl | exact Ev.loadO 6 H rfl (agg_run rfl) (size_run rfl) (by first | assumption | rfl) rfl | exact Ev.loadN [_, _] (agg_run rfl) (size_run rfl) rfl ⟨H.ldL 0 rfl _ rfl, H.ldL 0 rfl _ rfl, trivial⟩ | exact Ev.loadN [_, _] (agg_run rfl) (size_run rfl) rfl ⟨H.ldL 1 rfl _ rfl, H.ldL 1 rfl _ rfl, trivial⟩ | exact Ev.loadN [_, _] (agg_run rfl) (size_run rfl) rfl ⟨H.ldL 2 rfl _ rfl, H.ldL 2 rfl _ rfl, trivial⟩ | exact Ev.loadN [_, _] (agg_run rfl) (size_run rfl) rfl ⟨H.ldL 3 rfl _ rfl, H.ldL 3 rfl _ rfl, trivial⟩ | exact Ev.loadN [_, _] (agg_run rfl) (size_run rfl) rfl ⟨H.ldL 4 rfl _ rfl, H.ldL 4 rfl _ rfl, trivial⟩ | (change Ev _ _ _ _ (Op.load 36 (Operand.tmp 3)) _; fail))) ?_
    refine OPS.call (d := some 17) rfl rfl rfl (EvC.func (fun_run rfl)) (geoHas x c hx'.a hx'.b hc w) ?_
    rintro _ w ⟨rfl, hb⟩
    refine ⟨_, rfl, ?_⟩
    replace H := H.toBelow hb; clear hb
    refine OPS.nil ?_
    refine WP.cond rfl (fun hc5 => ?_) (fun hc5 => ?_)
    · refine WP.seq ?_
      refine WP.region ?_
      refine OPS.val rfl rfl rfl (Ev.asI rfl) ?_
      refine OPS.nil ?_
      refine WP.ret ⟨_, rfl, ?_⟩
      have hh : hasB x.a x.b c = true := hc5
      rw [if_pos hh] at hs
      exact ⟨ret_int hs, H.below⟩
    have hh : hasB x.a x.b c = false := hc5
    rw [if_neg (by rw [hh]; simp)] at hs
    refine WP.skip ?_
    refine WP.seq ?_
    refine WP.rquiet mixed (by kernel_rfl) H ?_
    clear H; intro w hbw7 H
    refine OPS.val rfl rfl rfl (Ev.fieldAddr (fld_run rfl) rfl) ?_
    refine OPS.val rfl rfl rfl (Ev.fieldAddr (fld_run rfl) rfl) ?_
    refine OPS.val rfl rfl rfl (Ev.load1 (agg_run rfl) rfl (by first | exact H.ldL 0 rfl _ rfl | exact H.ldL 1 rfl _ rfl | exact H.ldL 2 rfl _ rfl | exact H.ldL 3 rfl _ rfl | exact H.ldL 4 rfl _ rfl | exact H.ldL 5 rfl _ rfl | exact H.ldL 6 rfl _ rfl | exact H.ldL 7 rfl _ rfl | exact H.ld0 (by assumption) | assumption | exact H.ldS (by assumption) (by assumption))) ?_
    refine OPS.val rfl rfl rfl (Ev.fieldAddr (fld_run rfl) rfl) ?_
    refine OPS.val rfl rfl rfl (Ev.load1 (agg_run rfl) rfl (by first | exact H.ldL 0 rfl _ rfl | exact H.ldL 1 rfl _ rfl | exact H.ldL 2 rfl _ rfl | exact H.ldL 3 rfl _ rfl | exact H.ldL 4 rfl _ rfl | exact H.ldL 5 rfl _ rfl | exact H.ldL 6 rfl _ rfl | exact H.ldL 7 rfl _ rfl | exact H.ld0 (by assumption) | assumption | exact H.ldS (by assumption) (by assumption))) ?_
    refine OPS.val rfl rfl rfl (Ev.gtr rfl rfl) ?_
    refine OPS.val rfl rfl rfl (Ev.fieldAddr (fld_run rfl) rfl) ?_
    refine OPS.val rfl rfl rfl (Ev.fieldAddr (fld_run rfl) rfl) ?_
    refine OPS.val rfl rfl rfl (Ev.load1 (agg_run rfl) rfl (by first | exact H.ldL 0 rfl _ rfl | exact H.ldL 1 rfl _ rfl | exact H.ldL 2 rfl _ rfl | exact H.ldL 3 rfl _ rfl | exact H.ldL 4 rfl _ rfl | exact H.ldL 5 rfl _ rfl | exact H.ldL 6 rfl _ rfl | exact H.ldL 7 rfl _ rfl | exact H.ld0 (by assumption) | assumption | exact H.ldS (by assumption) (by assumption))) ?_
    refine OPS.val rfl rfl rfl (Ev.fieldAddr (fld_run rfl) rfl) ?_
    refine OPS.val rfl rfl rfl (Ev.load1 (agg_run rfl) rfl (by first | exact H.ldL 0 rfl _ rfl | exact H.ldL 1 rfl _ rfl | exact H.ldL 2 rfl _ rfl | exact H.ldL 3 rfl _ rfl | exact H.ldL 4 rfl _ rfl | exact H.ldL 5 rfl _ rfl | exact H.ldL 6 rfl _ rfl | exact H.ldL 7 rfl _ rfl | exact H.ld0 (by assumption) | assumption | exact H.ldS (by assumption) (by assumption))) ?_
    refine OPS.val rfl rfl rfl (Ev.gtr rfl rfl) ?_
    refine OPS.val rfl rfl rfl (Ev.neqB Try.runUnderlying4 rfl rfl) ?_
    refine OPS.val rfl rfl rfl (Ev.mvB rfl) ?_
    refine OPS.gval rfl rfl rfl rfl rfl (fun hg => Ev.fieldAddr (fld_run rfl) (by first | rfl | exact gvE hg rfl)) ?_
    refine OPS.gval rfl rfl rfl rfl rfl (fun hg => (by first | exact Ev.loadO 0 H rfl (agg_run rfl) (size_run rfl) (by first | assumption | rfl) rfl | exact Ev.loadO 1 H rfl (agg_run rfl) (size_run rfl) (by first | assumption | rfl) rfl | exact Ev.loadO 2 H rfl (agg_run rfl) (size_run rfl) (by first | assumption | rfl) rfl | exact Ev.loadO 3 H rfl (agg_run rfl) (size_run rfl) (by first | assumption | rfl) rfl | exact Ev.loadO 4 H rfl (agg_run rfl) (size_run rfl) (by first | assumption | rfl) rfl | exact Ev.loadO 5 H rfl (agg_run rfl) (size_run rfl) (by first | assumption | rfl) rfl | exact Ev.loadO 6 H rfl (agg_run rfl) (size_run rfl) (by first | assumption | rfl) rfl | exact Ev.loadN [_, _] (agg_run rfl) (size_run rfl) (by first | rfl | exact gvE hg rfl) ⟨H.ldL 0 rfl _ rfl, H.ldL 0 rfl _ rfl, trivial⟩ | exact Ev.loadN [_, _] (agg_run rfl) (size_run rfl) (by first | rfl | exact gvE hg rfl) ⟨H.ldL 1 rfl _ rfl, H.ldL 1 rfl _ rfl, trivial⟩ | exact Ev.loadN [_, _] (agg_run rfl) (size_run rfl) (by first | rfl | exact gvE hg rfl) ⟨H.ldL 2 rfl _ rfl, H.ldL 2 rfl _ rfl, trivial⟩ | exact Ev.loadN [_, _] (agg_run rfl) (size_run rfl) (by first | rfl | exact gvE hg rfl) ⟨H.ldL 3 rfl _ rfl, H.ldL 3 rfl _ rfl, trivial⟩ | exact Ev.loadN [_, _] (agg_run rfl) (size_run rfl) (by first | rfl | exact gvE hg rfl) ⟨H.ldL 4 rfl _ rfl, H.ldL 4 rfl _ rfl, trivial⟩ | (change Ev _ _ _ _ (Op.load 36 (Operand.tmp 32)) _; fail))) ?_
    refine OPS.gval rfl rfl rfl rfl rfl (fun hg => Ev.fieldAddr (fld_run rfl) (by first | rfl | exact gvE hg rfl)) ?_
    refine OPS.gval rfl rfl rfl rfl rfl (fun hg => (by first | exact Ev.loadO 0 H rfl (agg_run rfl) (size_run rfl) (by first | assumption | rfl) rfl | exact Ev.loadO 1 H rfl (agg_run rfl) (size_run rfl) (by first | assumption | rfl) rfl | exact Ev.loadO 2 H rfl (agg_run rfl) (size_run rfl) (by first | assumption | rfl) rfl | exact Ev.loadO 3 H rfl (agg_run rfl) (size_run rfl) (by first | assumption | rfl) rfl | exact Ev.loadO 4 H rfl (agg_run rfl) (size_run rfl) (by first | assumption | rfl) rfl | exact Ev.loadO 5 H rfl (agg_run rfl) (size_run rfl) (by first | assumption | rfl) rfl | exact Ev.loadO 6 H rfl (agg_run rfl) (size_run rfl) (by first | assumption | rfl) rfl | exact Ev.loadN [_, _] (agg_run rfl) (size_run rfl) (by first | rfl | exact gvE hg rfl) ⟨H.ldL 0 rfl _ rfl, H.ldL 0 rfl _ rfl, trivial⟩ | exact Ev.loadN [_, _] (agg_run rfl) (size_run rfl) (by first | rfl | exact gvE hg rfl) ⟨H.ldL 1 rfl _ rfl, H.ldL 1 rfl _ rfl, trivial⟩ | exact Ev.loadN [_, _] (agg_run rfl) (size_run rfl) (by first | rfl | exact gvE hg rfl) ⟨H.ldL 2 rfl _ rfl, H.ldL 2 rfl _ rfl, trivial⟩ | exact Ev.loadN [_, _] (agg_run rfl) (size_run rfl) (by first | rfl | exact gvE hg rfl) ⟨H.ldL 3 rfl _ rfl, H.ldL 3 rfl _ rfl, trivial⟩ | exact Ev.loadN [_, _] (agg_run rfl) (size_run rfl) (by first | rfl | exact gvE hg rfl) ⟨H.ldL 4 rfl _ rfl, H.ldL 4 rfl _ rfl, trivial⟩ | (change Ev _ _ _ _ (Op.load 36 (Operand.tmp 34)) _; fail))) ?_
    refine OPS.gval rfl rfl rfl rfl rfl (fun hg => (by first | exact Ev.loadO 0 H rfl (agg_run rfl) (size_run rfl) (by first | assumption | rfl) rfl | exact Ev.loadO 1 H rfl (agg_run rfl) (size_run rfl) (by first | assumption | rfl) rfl | exact Ev.loadO 2 H rfl (agg_run rfl) (size_run rfl) (by first | assumption | rfl) rfl | exact Ev.loadO 3 H rfl (agg_run rfl) (size_run rfl) (by first | assumption | rfl) rfl | exact Ev.loadO 4 H rfl (agg_run rfl) (size_run rfl) (by first | assumption | rfl) rfl | exact Ev.loadO 5 H rfl (agg_run rfl) (size_run rfl) (by first | assumption | rfl) rfl | exact Ev.loadO 6 H rfl (agg_run rfl) (size_run rfl) (by first | assumption | rfl) rfl | exact Ev.loadN [_, _] (agg_run rfl) (size_run rfl) (by first | rfl | exact gvE hg rfl) ⟨H.ldL 0 rfl _ rfl, H.ldL 0 rfl _ rfl, trivial⟩ | exact Ev.loadN [_, _] (agg_run rfl) (size_run rfl) (by first | rfl | exact gvE hg rfl) ⟨H.ldL 1 rfl _ rfl, H.ldL 1 rfl _ rfl, trivial⟩ | exact Ev.loadN [_, _] (agg_run rfl) (size_run rfl) (by first | rfl | exact gvE hg rfl) ⟨H.ldL 2 rfl _ rfl, H.ldL 2 rfl _ rfl, trivial⟩ | exact Ev.loadN [_, _] (agg_run rfl) (size_run rfl) (by first | rfl | exact gvE hg rfl) ⟨H.ldL 3 rfl _ rfl, H.ldL 3 rfl _ rfl, trivial⟩ | exact Ev.loadN [_, _] (agg_run rfl) (size_run rfl) (by first | rfl | exact gvE hg rfl) ⟨H.ldL 4 rfl _ rfl, H.ldL 4 rfl _ rfl, trivial⟩ | (change Ev _ _ _ _ (Op.load 36 (Operand.tmp 3)) _; fail))) ?_
    refine OPS.gcallq2 (f := 83) (fun hg w2 hb2 => geoCross x.a x.b c hx'.a hx'.b hc w2) rfl rfl rfl rfl rfl (fun hg => EvC.conv (EvC.func (fun_run rfl)) (l3 (by first | rfl | exact gvE hg rfl) (by first | rfl | exact gvE hg rfl) (by first | rfl | exact gvE hg rfl))) ?_
    refine OPS.gval rfl rfl rfl rfl rfl (fun hg => Ev.gtr (by first | rfl | exact gvE hg rfl) (by first | rfl | exact gvE hg rfl)) ?_
    refine OPS.gval rfl rfl rfl rfl rfl (fun hg => Ev.fieldAddr (fld_run rfl) (by first | rfl | exact gvE hg rfl)) ?_
    refine OPS.gval rfl rfl rfl rfl rfl (fun hg => Ev.fieldAddr (fld_run rfl) (by first | rfl | exact gvE hg rfl)) ?_
    refine OPS.gval rfl rfl rfl rfl rfl (fun hg => Ev.load1 (agg_run rfl) (by first | rfl | exact gvE hg rfl) (by first | exact H.ldL 0 rfl _ rfl | exact H.ldL 1 rfl _ rfl | exact H.ldL 2 rfl _ rfl | exact H.ldL 3 rfl _ rfl | exact H.ldL 4 rfl _ rfl | exact H.ldL 5 rfl _ rfl | exact H.ldL 6 rfl _ rfl | exact H.ldL 7 rfl _ rfl | exact H.ld0 (by assumption) | assumption | exact H.ldS (by assumption) (by assumption))) ?_
    refine OPS.gval rfl rfl rfl rfl rfl (fun hg => Ev.fieldAddr (fld_run rfl) (by first | rfl | exact gvE hg rfl)) ?_
    refine OPS.gval rfl rfl rfl rfl rfl (fun hg => Ev.fieldAddr (fld_run rfl) (by first | rfl | exact gvE hg rfl)) ?_
    refine OPS.gval rfl rfl rfl rfl rfl (fun hg => Ev.load1 (agg_run rfl) (by first | rfl | exact gvE hg rfl) (by first | exact H.ldL 0 rfl _ rfl | exact H.ldL 1 rfl _ rfl | exact H.ldL 2 rfl _ rfl | exact H.ldL 3 rfl _ rfl | exact H.ldL 4 rfl _ rfl | exact H.ldL 5 rfl _ rfl | exact H.ldL 6 rfl _ rfl | exact H.ldL 7 rfl _ rfl | exact H.ld0 (by assumption) | assumption | exact H.ldS (by assumption) (by assumption))) ?_
    refine OPS.gval rfl rfl rfl rfl rfl (fun hg => Ev.gtr (by first | rfl | exact gvE hg rfl) (by first | rfl | exact gvE hg rfl)) ?_
    refine OPS.gval rfl rfl rfl rfl rfl (fun hg => Ev.eqlB Try.runUnderlying4 (by first | rfl | exact gvE hg rfl) (by first | rfl | exact gvE hg rfl)) ?_
    refine OPS.val rfl rfl rfl ((by first | exact Ev.pickOr rfl rfl rfl | exact Ev.pickAnd rfl rfl rfl)) ?_
    refine OPS.nilq H ?_
    clear H; intro w hbx7 H
    refine WP.cond rfl (fun hc7 => ?_) (fun hc7 => ?_)
    · have hfl : flipB x c = true := by unfold flipB; exact hc7
      rw [if_pos hfl] at hs
      refine WP.region ?_
      refine OPS.val rfl rfl rfl (Ev.mvI rfl) ?_
      refine OPS.val rfl rfl rfl (Ev.neg rfl (by unfold fits; omega)) ?_
      refine OPS.val rfl rfl rfl (Ev.asI rfl) ?_
      refine OPS.nil ?_
      refine WP.region ?_
      refine OPS.val rfl rfl rfl (Ev.add rfl rfl (by unfold fits; omega)) ?_
      refine OPS.val rfl rfl rfl (Ev.mvI rfl) ?_
      refine OPS.nil ?_
      first
        | exact ⟨(by repeat (first | exact Agree.refl _ _ | exact Agree.mix _ _ _ | refine Agree.upd rfl ?_ | refine Agree.mix2 rfl ?_)), k - 1, by omega, j + 1, o, by omega, rfl, rfl, hs, by omega, H.drop (List.sublist_cons_self _ _)⟩
        | exact ⟨(by repeat (first | exact Agree.refl _ _ | exact Agree.mix _ _ _ | refine Agree.upd rfl ?_ | refine Agree.mix2 rfl ?_)), k - 1, by omega, j + 1, -o, by omega, rfl, rfl, hs, by omega, H.drop (List.sublist_cons_self _ _)⟩
    have hfl : flipB x c = false := by unfold flipB; exact hc7
    rw [if_neg (by rw [hfl]; simp)] at hs
    refine WP.skip ?_
    refine WP.region ?_
    refine OPS.val rfl rfl rfl (Ev.add rfl rfl (by unfold fits; omega)) ?_
    refine OPS.val rfl rfl rfl (Ev.mvI rfl) ?_
    refine OPS.nil ?_
    first
      | exact ⟨(by repeat (first | exact Agree.refl _ _ | exact Agree.mix _ _ _ | refine Agree.upd rfl ?_ | refine Agree.mix2 rfl ?_)), k - 1, by omega, j + 1, o, by omega, rfl, rfl, hs, by omega, H.drop (List.sublist_cons_self _ _)⟩
      | exact ⟨(by repeat (first | exact Agree.refl _ _ | exact Agree.mix _ _ _ | refine Agree.upd rfl ?_ | refine Agree.mix2 rfl ?_)), k - 1, by omega, j + 1, -o, by omega, rfl, rfl, hs, by omega, H.drop (List.sublist_cons_self _ _)⟩
  refine WP.exit ?_
  refine XB.hit ?_
  refine WP.seq ?_
  refine WP.region ?_
  refine OPS.val rfl rfl rfl (Ev.mvI rfl) ?_
  refine OPS.val rfl rfl rfl (Ev.asI rfl) ?_
  refine OPS.nil ?_
  refine WP.ret ⟨_, rfl, ?_⟩
  have hj : j = l.length := by simp at hc3; omega
  rw [hj, List.drop_of_length_le (by omega), whereV] at hs
  exact ⟨ret_int hs, H.below⟩
def inErr (l : List Pt) (c : Pt) : Int := if polyErr l ≠ 0 then polyErr l else if ptOk c = false then 1 else 0
def inVal (l : List Pt) (c : Pt) : Int := if inErr l c = 0 then whereV c (-1) (edgesL l) else 0
theorem inErr_ok {l : List Pt} {c : Pt} (h : inErr l c = 0) : polyErr l = 0 ∧ PtR c := by
  unfold inErr at h
  split at h
  · rename_i h1; exact absurd h h1
  · rename_i h1
    split at h
    · cases h
    · rename_i h2
      exact ⟨Classical.not_not.1 h1, ptOk_iff.1 (by simpa using h2)⟩
theorem geoInside (A : Option Addr) (l : List Pt) (cap : Nat) (c : Pt) (w0 : World) (hz : RowsAt 2 ptCells w0 A l) :
    Calls Try.prog 87 #[.slice A l.length cap, .agg #[I c.x, I c.y]] w0 fun e w' => e = .returned (.tuple #[I (inVal l c), I (inErr l c)]) ∧ Below w0.heap.size w0 w' := by
  have H := SH.refl w0
  refine Calls.ofWP Try.func87 rfl Try.results87 Try.ntmps87 rfl ?_
  refine WP.seq ?_
  refine WP.region ?_
  refine OPS.box rfl rfl rfl rfl (cA rfl) H ?_
  clear H; intro g3 w H
  refine OPS.val rfl rfl rfl (Ev.asI rfl) ?_
  refine OPS.val rfl rfl rfl (Ev.asI rfl) ?_
  refine OPS.nil ?_
  refine WP.seq ?_
  refine WP.seq ?_
  refine WP.region ?_
  refine OPS.val rfl rfl rfl (Ev.mvS rfl) ?_
  refine OPS.call (d := some 8) rfl rfl rfl (EvC.func (fun_run rfl)) (geoCheck A l cap w (hz.sh H)) ?_
  rintro _ w ⟨rfl, hb⟩
  refine ⟨_, rfl, ?_⟩
  replace H := H.toBelow hb; clear hb
  refine OPS.val rfl rfl rfl (Ev.asI rfl) ?_
  refine OPS.nil ?_
  refine WP.seq ?_
  refine WP.region ?_
  refine OPS.val rfl rfl rfl (Ev.mvI rfl) ?_
  refine OPS.val rfl rfl rfl (Ev.neq rfl rfl) ?_
  refine OPS.nil ?_
  refine WP.cond rfl (fun hc2 => ?_) (fun hc2 => ?_)
  · refine WP.seq ?_
    refine WP.region ?_
    refine OPS.val rfl rfl rfl (Ev.mvI rfl) ?_
    refine OPS.val rfl rfl rfl (Ev.asI rfl) ?_
    refine OPS.val rfl rfl rfl (Ev.asI rfl) ?_
    refine OPS.nil ?_
    refine WP.ret ⟨_, rfl, ?_⟩
    have h1 : polyErr l ≠ 0 := by simpa using hc2
    have he : inErr l c = polyErr l := by rw [inErr, if_pos h1]
    exact ⟨by rw [inVal, he, if_neg h1]; rfl, H.below⟩
  have h1 : ¬ polyErr l ≠ 0 := by simpa using hc2
  obtain ⟨k1, k2, k3, k4⟩ := polyErr_ok (Classical.not_not.1 h1)
  refine WP.skip ?_
  refine WP.seq ?_
  refine WP.seq ?_
  refine WP.region ?_
  refine OPS.val rfl rfl rfl ((by first | exact Ev.loadO 0 H rfl (agg_run rfl) (size_run rfl) (by first | assumption | rfl) rfl | exact Ev.loadO 1 H rfl (agg_run rfl) (size_run rfl) (by first | assumption | rfl) rfl | exact Ev.loadO 2 H rfl (agg_run rfl) (size_run rfl) (by first | assumption | rfl) rfl | exact Ev.loadO 3 H rfl (agg_run rfl) (size_run rfl) (by first | assumption | rfl) rfl | exact Ev.loadO 4 H rfl (agg_run rfl) (size_run rfl) (by first | assumption | rfl) rfl | exact Ev.loadO 5 H rfl (agg_run rfl) (size_run rfl) (by first | assumption | rfl) rfl | exact Ev.loadO 6 H rfl (agg_run rfl) (size_run rfl) (by first | assumption | rfl) rfl | exact Ev.loadN [_, _] (agg_run rfl) (size_run rfl) rfl ⟨H.ldL 0 rfl _ rfl, H.ldL 0 rfl _ rfl, trivial⟩ | exact Ev.loadN [_, _] (agg_run rfl) (size_run rfl) rfl ⟨H.ldL 1 rfl _ rfl, H.ldL 1 rfl _ rfl, trivial⟩ | exact Ev.loadN [_, _] (agg_run rfl) (size_run rfl) rfl ⟨H.ldL 2 rfl _ rfl, H.ldL 2 rfl _ rfl, trivial⟩ | exact Ev.loadN [_, _] (agg_run rfl) (size_run rfl) rfl ⟨H.ldL 3 rfl _ rfl, H.ldL 3 rfl _ rfl, trivial⟩ | exact Ev.loadN [_, _] (agg_run rfl) (size_run rfl) rfl ⟨H.ldL 4 rfl _ rfl, H.ldL 4 rfl _ rfl, trivial⟩ | (change Ev _ _ _ _ (Op.load 36 (Operand.tmp 3)) _; fail))) ?_
  refine OPS.call (d := some 13) rfl rfl rfl (EvC.func (fun_run rfl)) (geoValid c w) ?_
  rintro _ w ⟨rfl, hb⟩
  refine ⟨_, rfl, ?_⟩
  replace H := H.toBelow hb; clear hb
  refine OPS.val rfl rfl rfl (Ev.not rfl) ?_
  refine OPS.nil ?_
  refine WP.cond rfl (fun hc4 => ?_) (fun hc4 => ?_)
  · refine WP.seq ?_
    refine WP.region ?_
    refine OPS.val rfl rfl rfl (Ev.asI rfl) ?_
    refine OPS.val rfl rfl rfl (Ev.asI rfl) ?_
    refine OPS.nil ?_
    refine WP.ret ⟨_, rfl, ?_⟩
    have h2 : ptOk c = false := by simpa using hc4
    have he : inErr l c = 1 := by rw [inErr, if_neg h1, if_pos h2]
    exact ⟨by rw [inVal, he, if_neg (by decide)]; rfl, H.below⟩
  have h2 : ptOk c = true := by simpa using hc4
  have he : inErr l c = 0 := by rw [inErr, if_neg h1, if_neg (by rw [h2]; simp)]
  refine WP.skip ?_
  refine WP.seq ?_
  refine WP.region ?_
  refine OPS.val rfl rfl rfl (Ev.mvS rfl) ?_
  refine OPS.val rfl rfl rfl ((by first | exact Ev.loadO 0 H rfl (agg_run rfl) (size_run rfl) (by first | assumption | rfl) rfl | exact Ev.loadO 1 H rfl (agg_run rfl) (size_run rfl) (by first | assumption | rfl) rfl | exact Ev.loadO 2 H rfl (agg_run rfl) (size_run rfl) (by first | assumption | rfl) rfl | exact Ev.loadO 3 H rfl (agg_run rfl) (size_run rfl) (by first | assumption | rfl) rfl | exact Ev.loadO 4 H rfl (agg_run rfl) (size_run rfl) (by first | assumption | rfl) rfl | exact Ev.loadO 5 H rfl (agg_run rfl) (size_run rfl) (by first | assumption | rfl) rfl | exact Ev.loadO 6 H rfl (agg_run rfl) (size_run rfl) (by first | assumption | rfl) rfl | exact Ev.loadN [_, _] (agg_run rfl) (size_run rfl) rfl ⟨H.ldL 0 rfl _ rfl, H.ldL 0 rfl _ rfl, trivial⟩ | exact Ev.loadN [_, _] (agg_run rfl) (size_run rfl) rfl ⟨H.ldL 1 rfl _ rfl, H.ldL 1 rfl _ rfl, trivial⟩ | exact Ev.loadN [_, _] (agg_run rfl) (size_run rfl) rfl ⟨H.ldL 2 rfl _ rfl, H.ldL 2 rfl _ rfl, trivial⟩ | exact Ev.loadN [_, _] (agg_run rfl) (size_run rfl) rfl ⟨H.ldL 3 rfl _ rfl, H.ldL 3 rfl _ rfl, trivial⟩ | exact Ev.loadN [_, _] (agg_run rfl) (size_run rfl) rfl ⟨H.ldL 4 rfl _ rfl, H.ldL 4 rfl _ rfl, trivial⟩ | (change Ev _ _ _ _ (Op.load 36 (Operand.tmp 3)) _; fail))) ?_
  refine OPS.call (d := some 17) rfl rfl rfl (EvC.func (fun_run rfl)) (geoWhere A l cap c w (hz.sh H) (by omega) k3 (ptOk_iff.1 h2)) ?_
  rintro _ w ⟨rfl, hb⟩
  refine ⟨_, rfl, ?_⟩
  replace H := H.toBelow hb; clear hb
  refine OPS.val rfl rfl rfl (Ev.asI rfl) ?_
  refine OPS.val rfl rfl rfl (Ev.asI rfl) ?_
  refine OPS.nil ?_
  refine WP.ret ⟨_, rfl, ?_⟩
  exact ⟨by rw [inVal, he, if_pos rfl]; rfl, H.below⟩
def discErr (l : List Pt) (c : Pt) (r : Int) : Int := if inErr l c ≠ 0 then inErr l c else if r < 0 ∨ 16384 < r then 1 else 0
set_option maxHeartbeats 1000000 in
theorem geoDisc (A : Option Addr) (l : List Pt) (cap : Nat) (c : Pt) (r : Int) (w0 : World) (hz : RowsAt 2 ptCells w0 A l) :
    Calls Try.prog 70 #[.slice A l.length cap, .agg #[I c.x, I c.y], I r] w0 fun e w' => e = .returned (.tuple #[I (if discErr l c r = 0 then whereV c (-1) (edgesL l) else 0), I (if discErr l c r = 0 then leastV c r 1 (edgesL l) else 0), I (discErr l c r)]) ∧ Below w0.heap.size w0 w' := by
  have H := SH.refl w0
  refine Calls.ofWP Try.func70 rfl Try.results70 Try.ntmps70 rfl ?_
  refine WP.seq ?_
  refine WP.region ?_
  refine OPS.box rfl rfl rfl rfl (cA rfl) H ?_
  clear H; intro g4 w H
  refine OPS.val rfl rfl rfl (Ev.asI rfl) ?_
  refine OPS.val rfl rfl rfl (Ev.asI rfl) ?_
  refine OPS.val rfl rfl rfl (Ev.asI rfl) ?_
  refine OPS.nil ?_
  refine WP.seq ?_
  refine WP.region ?_
  refine OPS.val rfl rfl rfl (Ev.mvS rfl) ?_
  refine OPS.val rfl rfl rfl ((by first | exact Ev.loadO 0 H rfl (agg_run rfl) (size_run rfl) (by first | assumption | rfl) rfl | exact Ev.loadO 1 H rfl (agg_run rfl) (size_run rfl) (by first | assumption | rfl) rfl | exact Ev.loadO 2 H rfl (agg_run rfl) (size_run rfl) (by first | assumption | rfl) rfl | exact Ev.loadO 3 H rfl (agg_run rfl) (size_run rfl) (by first | assumption | rfl) rfl | exact Ev.loadO 4 H rfl (agg_run rfl) (size_run rfl) (by first | assumption | rfl) rfl | exact Ev.loadO 5 H rfl (agg_run rfl) (size_run rfl) (by first | assumption | rfl) rfl | exact Ev.loadO 6 H rfl (agg_run rfl) (size_run rfl) (by first | assumption | rfl) rfl | exact Ev.loadN [_, _] (agg_run rfl) (size_run rfl) rfl ⟨H.ldL 0 rfl _ rfl, H.ldL 0 rfl _ rfl, trivial⟩ | exact Ev.loadN [_, _] (agg_run rfl) (size_run rfl) rfl ⟨H.ldL 1 rfl _ rfl, H.ldL 1 rfl _ rfl, trivial⟩ | exact Ev.loadN [_, _] (agg_run rfl) (size_run rfl) rfl ⟨H.ldL 2 rfl _ rfl, H.ldL 2 rfl _ rfl, trivial⟩ | exact Ev.loadN [_, _] (agg_run rfl) (size_run rfl) rfl ⟨H.ldL 3 rfl _ rfl, H.ldL 3 rfl _ rfl, trivial⟩ | exact Ev.loadN [_, _] (agg_run rfl) (size_run rfl) rfl ⟨H.ldL 4 rfl _ rfl, H.ldL 4 rfl _ rfl, trivial⟩ | (change Ev _ _ _ _ (Op.load 36 (Operand.tmp 4)) _; fail))) ?_
  refine OPS.call (d := some 17) rfl rfl rfl (EvC.func (fun_run rfl)) (geoInside A l cap c w (hz.sh H)) ?_
  rintro _ w ⟨rfl, hb⟩
  refine ⟨_, rfl, ?_⟩
  replace H := H.toBelow hb; clear hb
  refine OPS.val rfl rfl rfl (Ev.mvT rfl) ?_
  refine OPS.val rfl rfl rfl (Ev.extract rfl rfl) ?_
  refine OPS.val rfl rfl rfl (Ev.extract rfl rfl) ?_
  refine OPS.val rfl rfl rfl (Ev.asI rfl) ?_
  refine OPS.val rfl rfl rfl (Ev.asI rfl) ?_
  refine OPS.nil ?_
  refine WP.seq ?_
  refine WP.seq ?_
  refine WP.region ?_
  refine OPS.val rfl rfl rfl (Ev.mvI rfl) ?_
  refine OPS.val rfl rfl rfl (Ev.neq rfl rfl) ?_
  refine OPS.nil ?_
  refine WP.cond rfl (fun hc2 => ?_) (fun hc2 => ?_)
  · refine WP.seq ?_
    refine WP.region ?_
    refine OPS.val rfl rfl rfl (Ev.mvI rfl) ?_
    refine OPS.val rfl rfl rfl (Ev.asI rfl) ?_
    refine OPS.val rfl rfl rfl (Ev.asI rfl) ?_
    refine OPS.val rfl rfl rfl (Ev.asI rfl) ?_
    refine OPS.nil ?_
    refine WP.ret ⟨_, rfl, ?_⟩
    have h1 : inErr l c ≠ 0 := by simpa using hc2
    have he : discErr l c r = inErr l c := by rw [discErr, if_pos h1]
    exact ⟨by rw [he, if_neg h1, if_neg h1]; rfl, H.below⟩
  have h1 : ¬ inErr l c ≠ 0 := by simpa using hc2
  have h1' := Classical.not_not.1 h1
  obtain ⟨kp, kc⟩ := inErr_ok h1'
  obtain ⟨k1, k2, k3, k4⟩ := polyErr_ok kp
  have hiv : inVal l c = whereV c (-1) (edgesL l) := by rw [inVal, if_pos h1']
  have hok := edgesL_ok k3
  have hEl := edgesL_len l
  refine WP.skip ?_
  refine WP.seq ?_
  refine WP.seq ?_
  refine WP.region ?_
  refine OPS.val rfl rfl rfl (Ev.mvI rfl) ?_
  refine OPS.val rfl rfl rfl (Ev.lss rfl rfl) ?_
  refine OPS.val rfl rfl rfl (Ev.mvB rfl) ?_
  refine OPS.gval rfl rfl rfl rfl rfl (fun hg => Ev.mvI (by first | rfl | exact gvE hg rfl)) ?_
  refine OPS.gval rfl rfl rfl rfl rfl (fun hg => Ev.gtr (by first | rfl | exact gvE hg rfl) (by first | rfl | exact gvE hg rfl)) ?_
  refine OPS.val rfl rfl rfl ((by first | exact Ev.pickOr rfl rfl rfl | exact Ev.pickAnd rfl rfl rfl)) ?_
  refine OPS.nil ?_
  refine WP.cond rfl (fun hc4 => ?_) (fun hc4 => ?_)
  · refine WP.seq ?_
    refine WP.region ?_
    refine OPS.val rfl rfl rfl (Ev.asI rfl) ?_
    refine OPS.val rfl rfl rfl (Ev.asI rfl) ?_
    refine OPS.val rfl rfl rfl (Ev.asI rfl) ?_
    refine OPS.nil ?_
    refine WP.ret ⟨_, rfl, ?_⟩
    have h2 : r < 0 ∨ 16384 < r := by simp at hc4; omega
    have he : discErr l c r = 1 := by rw [discErr, if_neg h1, if_pos h2]
    exact ⟨by rw [he, if_neg (by decide), if_neg (by decide)]; rfl, H.below⟩
  have h2 : ¬ (r < 0 ∨ 16384 < r) := by simp at hc4; omega
  have he : discErr l c r = 0 := by rw [discErr, if_neg h1, if_neg h2]
  rw [he, if_pos rfl, if_pos rfl]
  refine WP.skip ?_
  refine WP.seq ?_
  refine WP.region ?_
  refine OPS.val rfl rfl rfl (Ev.asI rfl) ?_
  refine OPS.nil ?_
  refine WP.seq ?_
  refine WP.seq ?_
  refine WP.region ?_
  refine OPS.val rfl rfl rfl (Ev.mvS rfl) ?_
  refine OPS.call (d := some 30) rfl rfl rfl (EvC.func (fun_run rfl)) (geoEdges A l cap w (hz.sh H) (by omega)) ?_
  rintro _ w ⟨S, ce, L, rfl, hO, Hc⟩
  refine ⟨_, rfl, ?_⟩
  replace H := SH.call (Lv := []) (by rw [List.append_nil]; exact H) Hc
  clear Hc
  simp only [List.cons_append, List.nil_append] at H
  have hEz : ∀ w R, SH w0 [] w (R ++ L) → RowsAt 4 edgeCells w S (edgesL l) := fun w R H => (hO.rows (l := edgesL l) edgeCells_len (by decide) H).1
  refine OPS.val rfl rfl rfl (Ev.len (el_run rfl) rfl) ?_
  refine OPS.val rfl rfl rfl (Ev.mvI rfl) ?_
  refine OPS.nil ?_
  refine WP.block ?_
  refine WP.loop [11, 13, 32, 33, 34, 35, 36, 37, 38, 39, 40, 41, 42] (fun k e w' => ∃ (j : Nat) (m : Int), j + k = l.length ∧ e 32 = I j ∧ e 11 = I m ∧ leastV c r m ((edgesL l).drop j) = leastV c r 1 (edgesL l) ∧ SH w0 [] w' (⟨g4, 36, [I c.x, I c.y]⟩ :: L)) (l.length) (⟨0, 1, by omega, rfl, rfl, by simp, H⟩) ?_
  clear H
  rintro k u w ⟨j, m, hk, h32, h11, hs, H⟩
  refine WP.know (t := 32) h32 (WP.know (t := 11) h11 ?_)
  refine WP.seq ?_
  refine WP.region ?_
  refine OPS.val rfl rfl rfl (Ev.lss rfl rfl) ?_
  refine OPS.nil ?_
  refine WP.seq ?_
  refine WP.cond rfl (fun hc8 => ?_) (fun hc8 => ?_)
  · have hlt : j < l.length := by simpa using hc8
    have hlt2 : j < (edgesL l).length := by omega
    obtain ⟨b, of, rfl, hcx⟩ := hEz w [_] H j hlt2
    have hx' := hok (edgesL l)[j] (List.getElem_mem hlt2)
    rw [dropE hlt2, leastV] at hs
    obtain ⟨x, hx⟩ : ∃ x, x = (edgesL l)[j] := ⟨_, rfl⟩
    rw [← hx] at hs hcx hx'
    refine WP.skip ?_
    refine WP.seq ?_
    refine WP.block ?_
    refine WP.seq ?_
    refine WP.region ?_
    refine OPS.val rfl rfl rfl ((by first | exact Ev.indexAddr1 (el_run rfl) (size_run rfl) rfl rfl rfl (by omega) | exact Ev.indexAddr (el_run rfl) (size_run rfl) rfl rfl rfl (by omega))) ?_
    refine OPS.val rfl rfl rfl ((by first | exact Ev.loadO 0 H rfl (agg_run rfl) (size_run rfl) (by first | assumption | rfl) rfl | exact Ev.loadO 1 H rfl (agg_run rfl) (size_run rfl) (by first | assumption | rfl) rfl | exact Ev.loadO 2 H rfl (agg_run rfl) (size_run rfl) (by first | assumption | rfl) rfl | exact Ev.loadO 3 H rfl (agg_run rfl) (size_run rfl) (by first | assumption | rfl) rfl | exact Ev.loadO 4 H rfl (agg_run rfl) (size_run rfl) (by first | assumption | rfl) rfl | exact Ev.loadO 5 H rfl (agg_run rfl) (size_run rfl) (by first | assumption | rfl) rfl | exact Ev.loadO 6 H rfl (agg_run rfl) (size_run rfl) (by first | assumption | rfl) rfl | (change Ev _ _ _ _ (Op.load 87 (Operand.tmp 34)) _; exact Ev.loadN (edgeCells x) (agg_run rfl) (size_run rfl) rfl hcx))) ?_
    refine OPS.alloc rfl rfl rfl rfl (zero_run rfl) rfl H ?_
    clear H; intro g13 w H
    first | refine OPS.store 0 _ rfl rfl rfl (size_run rfl) rfl (cA rfl) rfl rfl H rfl (by simp) ?_ | refine OPS.store 1 _ rfl rfl rfl (size_run rfl) rfl (cA rfl) rfl rfl H rfl (by simp) ?_ | refine OPS.store 2 _ rfl rfl rfl (size_run rfl) rfl (cA rfl) rfl rfl H rfl (by simp) ?_ | refine OPS.store 3 _ rfl rfl rfl (size_run rfl) rfl (cA rfl) rfl rfl H rfl (by simp) ?_ | refine OPS.store 4 _ rfl rfl rfl (size_run rfl) rfl (cA rfl) rfl rfl H rfl (by simp) ?_ | refine OPS.store 5 _ rfl rfl rfl (size_run rfl) rfl (cA rfl) rfl rfl H rfl (by simp) ?_ | refine OPS.store 6 _ rfl rfl rfl (size_run rfl) rfl (cA rfl) rfl rfl H rfl (by simp) ?_ | refine OPS.store 7 _ rfl rfl rfl (size_run rfl) rfl (cA rfl) rfl rfl H rfl (by simp) ?_ | refine OPS.store 8 _ rfl rfl rfl (size_run rfl) rfl (cA rfl) rfl rfl H rfl (by simp) ?_
    clear H; intro w H; try simp only [List.set_cons_zero, List.set_cons_succ, putL, Nat.zero_add] at H
    refine OPS.nil ?_
    dsimp only [edgeCells] at H
    refine WP.region ?_
    refine OPS.val rfl rfl rfl (Ev.mvI rfl) ?_
    refine OPS.val rfl rfl rfl ((by first | exact Ev.loadO 0 H rfl (agg_run rfl) (size_run rfl) (by first | assumption | rfl) rfl | exact Ev.loadO 1 H rfl (agg_run rfl) (size_run rfl) (by first | assumption | rfl) rfl | exact Ev.loadO 2 H rfl (agg_run rfl) (size_run rfl) (by first | assumption | rfl) rfl | exact Ev.loadO 3 H rfl (agg_run rfl) (size_run rfl) (by first | assumption | rfl) rfl | exact Ev.loadO 4 H rfl (agg_run rfl) (size_run rfl) (by first | assumption | rfl) rfl | exact Ev.loadO 5 H rfl (agg_run rfl) (size_run rfl) (by first | assumption | rfl) rfl | exact Ev.loadO 6 H rfl (agg_run rfl) (size_run rfl) (by first | assumption | rfl) rfl | (change Ev _ _ _ _ (Op.load 87 (Operand.tmp 13)) _; fail))) ?_
    refine OPS.val rfl rfl rfl ((by first | exact Ev.loadO 0 H rfl (agg_run rfl) (size_run rfl) (by first | assumption | rfl) rfl | exact Ev.loadO 1 H rfl (agg_run rfl) (size_run rfl) (by first | assumption | rfl) rfl | exact Ev.loadO 2 H rfl (agg_run rfl) (size_run rfl) (by first | assumption | rfl) rfl | exact Ev.loadO 3 H rfl (agg_run rfl) (size_run rfl) (by first | assumption | rfl) rfl | exact Ev.loadO 4 H rfl (agg_run rfl) (size_run rfl) (by first | assumption | rfl) rfl | exact Ev.loadO 5 H rfl (agg_run rfl) (size_run rfl) (by first | assumption | rfl) rfl | exact Ev.loadO 6 H rfl (agg_run rfl) (size_run rfl) (by first | assumption | rfl) rfl | exact Ev.loadN [_, _] (agg_run rfl) (size_run rfl) rfl ⟨H.ldL 0 rfl _ rfl, H.ldL 0 rfl _ rfl, trivial⟩ | exact Ev.loadN [_, _] (agg_run rfl) (size_run rfl) rfl ⟨H.ldL 1 rfl _ rfl, H.ldL 1 rfl _ rfl, trivial⟩ | exact Ev.loadN [_, _] (agg_run rfl) (size_run rfl) rfl ⟨H.ldL 2 rfl _ rfl, H.ldL 2 rfl _ rfl, trivial⟩ | exact Ev.loadN [_, _] (agg_run rfl) (size_run rfl) rfl ⟨H.ldL 3 rfl _ rfl, H.ldL 3 rfl _ rfl, trivial⟩ | exact Ev.loadN [_, _] (agg_run rfl) (size_run rfl) rfl ⟨H.ldL 4 rfl _ rfl, H.ldL 4 rfl _ rfl, trivial⟩ | (change Ev _ _ _ _ (Op.load 36 (Operand.tmp 4)) _; fail))) ?_
    refine OPS.val rfl rfl rfl (Ev.mvI rfl) ?_
    refine OPS.call (d := some 40) rfl rfl rfl (EvC.func (fun_run rfl)) (geoNear x c r hx' kc (by omega) w) ?_
    rintro _ w ⟨rfl, hb⟩
    refine ⟨_, rfl, ?_⟩
    replace H := H.toBelow hb; clear hb
    refine OPS.val rfl rfl rfl (Ev.min rfl rfl) ?_
    refine OPS.val rfl rfl rfl (Ev.asI rfl) ?_
    refine OPS.nil ?_
    refine WP.region ?_
    refine OPS.val rfl rfl rfl (Ev.add rfl rfl (by unfold fits; omega)) ?_
    refine OPS.val rfl rfl rfl (Ev.mvI rfl) ?_
    refine OPS.nil ?_
    exact ⟨(by repeat (first | exact Agree.refl _ _ | exact Agree.mix _ _ _ | refine Agree.upd rfl ?_ | refine Agree.mix2 rfl ?_)), k - 1, by omega, j + 1, _, by omega, rfl, rfl, hs, H.drop (List.sublist_cons_self _ _)⟩
  refine WP.exit ?_
  refine XB.hit ?_
  refine WP.seq ?_
  refine WP.region ?_
  refine OPS.val rfl rfl rfl (Ev.mvI rfl) ?_
  refine OPS.val rfl rfl rfl (Ev.mvI rfl) ?_
  refine OPS.val rfl rfl rfl (Ev.asI rfl) ?_
  refine OPS.val rfl rfl rfl (Ev.asI rfl) ?_
  refine OPS.val rfl rfl rfl (Ev.asI rfl) ?_
  refine OPS.nil ?_
  refine WP.ret ⟨_, rfl, ?_⟩
  have hj : j = l.length := by simp at hc8; omega
  rw [hj, List.drop_of_length_le (by omega), leastV] at hs
  exact ⟨by rw [← hs, ← hiv]; rfl, H.below⟩
theorem geoTouches (A : Option Addr) (l : List Pt) (cap : Nat) (c : Pt) (r : Int) (w0 : World) (hz : RowsAt 2 ptCells w0 A l) :
    Calls Try.prog 62 #[.slice A l.length cap, .agg #[I c.x, I c.y], I r] w0 fun e w' => e = .returned (.tuple #[Bo (decide (discErr l c r = 0) && touchV l c r), I (discErr l c r)]) ∧ Below w0.heap.size w0 w' := by
  have H := SH.refl w0
  refine Calls.ofWP Try.func62 rfl Try.results62 Try.ntmps62 rfl ?_
  refine WP.seq ?_
  refine WP.region ?_
  refine OPS.box rfl rfl rfl rfl (cA rfl) H ?_
  clear H; intro g4 w H
  refine OPS.val rfl rfl rfl (Ev.asB rfl) ?_
  refine OPS.val rfl rfl rfl (Ev.asI rfl) ?_
  refine OPS.nil ?_
  refine WP.seq ?_
  refine WP.region ?_
  refine OPS.val rfl rfl rfl (Ev.mvS rfl) ?_
  refine OPS.val rfl rfl rfl ((by first | exact Ev.loadO 0 H rfl (agg_run rfl) (size_run rfl) (by first | assumption | rfl) rfl | exact Ev.loadO 1 H rfl (agg_run rfl) (size_run rfl) (by first | assumption | rfl) rfl | exact Ev.loadO 2 H rfl (agg_run rfl) (size_run rfl) (by first | assumption | rfl) rfl | exact Ev.loadO 3 H rfl (agg_run rfl) (size_run rfl) (by first | assumption | rfl) rfl | exact Ev.loadO 4 H rfl (agg_run rfl) (size_run rfl) (by first | assumption | rfl) rfl | exact Ev.loadO 5 H rfl (agg_run rfl) (size_run rfl) (by first | assumption | rfl) rfl | exact Ev.loadO 6 H rfl (agg_run rfl) (size_run rfl) (by first | assumption | rfl) rfl | exact Ev.loadN [_, _] (agg_run rfl) (size_run rfl) rfl ⟨H.ldL 0 rfl _ rfl, H.ldL 0 rfl _ rfl, trivial⟩ | exact Ev.loadN [_, _] (agg_run rfl) (size_run rfl) rfl ⟨H.ldL 1 rfl _ rfl, H.ldL 1 rfl _ rfl, trivial⟩ | exact Ev.loadN [_, _] (agg_run rfl) (size_run rfl) rfl ⟨H.ldL 2 rfl _ rfl, H.ldL 2 rfl _ rfl, trivial⟩ | exact Ev.loadN [_, _] (agg_run rfl) (size_run rfl) rfl ⟨H.ldL 3 rfl _ rfl, H.ldL 3 rfl _ rfl, trivial⟩ | exact Ev.loadN [_, _] (agg_run rfl) (size_run rfl) rfl ⟨H.ldL 4 rfl _ rfl, H.ldL 4 rfl _ rfl, trivial⟩ | (change Ev _ _ _ _ (Op.load 36 (Operand.tmp 4)) _; fail))) ?_
  refine OPS.val rfl rfl rfl (Ev.mvI rfl) ?_
  refine OPS.call (d := some 15) rfl rfl rfl (EvC.func (fun_run rfl)) (geoDisc A l cap c r w (hz.sh H)) ?_
  rintro _ w ⟨rfl, hb⟩
  refine ⟨_, rfl, ?_⟩
  replace H := H.toBelow hb; clear hb
  refine OPS.val rfl rfl rfl (Ev.mvT rfl) ?_
  refine OPS.val rfl rfl rfl (Ev.extract rfl rfl) ?_
  refine OPS.val rfl rfl rfl (Ev.extract rfl rfl) ?_
  refine OPS.val rfl rfl rfl (Ev.extract rfl rfl) ?_
  refine OPS.val rfl rfl rfl (Ev.asI rfl) ?_
  refine OPS.val rfl rfl rfl (Ev.asI rfl) ?_
  refine OPS.val rfl rfl rfl (Ev.asI rfl) ?_
  refine OPS.nil ?_
  refine WP.seq ?_
  refine WP.region ?_
  refine OPS.val rfl rfl rfl (Ev.mvI rfl) ?_
  refine OPS.val rfl rfl rfl (Ev.eql rfl rfl) ?_
  refine OPS.val rfl rfl rfl (Ev.mvB rfl) ?_
  refine OPS.gval rfl rfl rfl rfl rfl (fun hg => Ev.mvI (by first | rfl | exact gvE hg rfl)) ?_
  refine OPS.gval rfl rfl rfl rfl rfl (fun hg => Ev.geq (by first | rfl | exact gvE hg rfl) (by first | rfl | exact gvE hg rfl)) ?_
  refine OPS.gval rfl rfl rfl rfl rfl (fun hg => Ev.mvB (by first | rfl | exact gvE hg rfl)) ?_
  refine OPS.gvalN rfl rfl (GB.g rfl) rfl rfl (fun hg => Ev.mvI (by first | rfl | exact gvE hg rfl)) ?_
  refine OPS.gvalN rfl rfl (GB.g rfl) rfl rfl (fun hg => Ev.leq (by first | rfl | exact gvE hg rfl) (by first | rfl | exact gvE hg rfl)) ?_
  refine OPS.gval rfl rfl rfl rfl rfl (fun hg => (by first | exact Ev.pickAnd2 (beqT hg) (gvE hg rfl) rfl rfl | exact Ev.pickOr2 (beqT hg) (gvE hg rfl) rfl rfl)) ?_
  refine OPS.val rfl rfl rfl ((by first | exact Ev.pickOr rfl rfl rfl | exact Ev.pickAnd rfl rfl rfl)) ?_
  refine OPS.val rfl rfl rfl (Ev.mvI rfl) ?_
  refine OPS.val rfl rfl rfl (Ev.asB rfl) ?_
  refine OPS.val rfl rfl rfl (Ev.asI rfl) ?_
  refine OPS.nil ?_
  refine WP.ret ⟨_, rfl, ?_⟩
  refine ⟨?_, H.below⟩
  by_cases h : discErr l c r = 0
  · have e1 : (if discErr l c r = 0 then whereV c (-1) (edgesL l) else 0) = whereV c (-1) (edgesL l) := if_pos h
    have e2 : (if discErr l c r = 0 then leastV c r 1 (edgesL l) else 0) = leastV c r 1 (edgesL l) := if_pos h
    unfold touchV
    rw [e1, e2]; rfl
  · have e0 : decide (discErr l c r = 0) = false := decide_eq_false h
    rw [e0]; rfl
theorem geoCovers (A : Option Addr) (l : List Pt) (cap : Nat) (c : Pt) (r : Int) (w0 : World) (hz : RowsAt 2 ptCells w0 A l) :
    Calls Try.prog 58 #[.slice A l.length cap, .agg #[I c.x, I c.y], I r] w0 fun e w' => e = .returned (.tuple #[Bo (decide (discErr l c r = 0) && coverV l c r), I (discErr l c r)]) ∧ Below w0.heap.size w0 w' := by
  have H := SH.refl w0
  refine Calls.ofWP Try.func58 rfl Try.results58 Try.ntmps58 rfl ?_
  refine WP.seq ?_
  refine WP.region ?_
  refine OPS.box rfl rfl rfl rfl (cA rfl) H ?_
  clear H; intro g4 w H
  refine OPS.val rfl rfl rfl (Ev.asB rfl) ?_
  refine OPS.val rfl rfl rfl (Ev.asI rfl) ?_
  refine OPS.nil ?_
  refine WP.seq ?_
  refine WP.region ?_
  refine OPS.val rfl rfl rfl (Ev.mvS rfl) ?_
  refine OPS.val rfl rfl rfl ((by first | exact Ev.loadO 0 H rfl (agg_run rfl) (size_run rfl) (by first | assumption | rfl) rfl | exact Ev.loadO 1 H rfl (agg_run rfl) (size_run rfl) (by first | assumption | rfl) rfl | exact Ev.loadO 2 H rfl (agg_run rfl) (size_run rfl) (by first | assumption | rfl) rfl | exact Ev.loadO 3 H rfl (agg_run rfl) (size_run rfl) (by first | assumption | rfl) rfl | exact Ev.loadO 4 H rfl (agg_run rfl) (size_run rfl) (by first | assumption | rfl) rfl | exact Ev.loadO 5 H rfl (agg_run rfl) (size_run rfl) (by first | assumption | rfl) rfl | exact Ev.loadO 6 H rfl (agg_run rfl) (size_run rfl) (by first | assumption | rfl) rfl | exact Ev.loadN [_, _] (agg_run rfl) (size_run rfl) rfl ⟨H.ldL 0 rfl _ rfl, H.ldL 0 rfl _ rfl, trivial⟩ | exact Ev.loadN [_, _] (agg_run rfl) (size_run rfl) rfl ⟨H.ldL 1 rfl _ rfl, H.ldL 1 rfl _ rfl, trivial⟩ | exact Ev.loadN [_, _] (agg_run rfl) (size_run rfl) rfl ⟨H.ldL 2 rfl _ rfl, H.ldL 2 rfl _ rfl, trivial⟩ | exact Ev.loadN [_, _] (agg_run rfl) (size_run rfl) rfl ⟨H.ldL 3 rfl _ rfl, H.ldL 3 rfl _ rfl, trivial⟩ | exact Ev.loadN [_, _] (agg_run rfl) (size_run rfl) rfl ⟨H.ldL 4 rfl _ rfl, H.ldL 4 rfl _ rfl, trivial⟩ | (change Ev _ _ _ _ (Op.load 36 (Operand.tmp 4)) _; fail))) ?_
  refine OPS.val rfl rfl rfl (Ev.mvI rfl) ?_
  refine OPS.call (d := some 15) rfl rfl rfl (EvC.func (fun_run rfl)) (geoDisc A l cap c r w (hz.sh H)) ?_
  rintro _ w ⟨rfl, hb⟩
  refine ⟨_, rfl, ?_⟩
  replace H := H.toBelow hb; clear hb
  refine OPS.val rfl rfl rfl (Ev.mvT rfl) ?_
  refine OPS.val rfl rfl rfl (Ev.extract rfl rfl) ?_
  refine OPS.val rfl rfl rfl (Ev.extract rfl rfl) ?_
  refine OPS.val rfl rfl rfl (Ev.extract rfl rfl) ?_
  refine OPS.val rfl rfl rfl (Ev.asI rfl) ?_
  refine OPS.val rfl rfl rfl (Ev.asI rfl) ?_
  refine OPS.val rfl rfl rfl (Ev.asI rfl) ?_
  refine OPS.nil ?_
  refine WP.seq ?_
  refine WP.region ?_
  refine OPS.val rfl rfl rfl (Ev.mvI rfl) ?_
  refine OPS.val rfl rfl rfl (Ev.eql rfl rfl) ?_
  refine OPS.val rfl rfl rfl (Ev.mvB rfl) ?_
  refine OPS.gval rfl rfl rfl rfl rfl (fun hg => Ev.mvI (by first | rfl | exact gvE hg rfl)) ?_
  refine OPS.gval rfl rfl rfl rfl rfl (fun hg => Ev.geq (by first | rfl | exact gvE hg rfl) (by first | rfl | exact gvE hg rfl)) ?_
  refine OPS.val rfl rfl rfl ((by first | exact Ev.pickOr rfl rfl rfl | exact Ev.pickAnd rfl rfl rfl)) ?_
  refine OPS.val rfl rfl rfl (Ev.mvB rfl) ?_
  refine OPS.gval rfl rfl rfl rfl rfl (fun hg => Ev.mvI (by first | rfl | exact gvE hg rfl)) ?_
  refine OPS.gval rfl rfl rfl rfl rfl (fun hg => Ev.geq (by first | rfl | exact gvE hg rfl) (by first | rfl | exact gvE hg rfl)) ?_
  refine OPS.val rfl rfl rfl ((by first | exact Ev.pickOr rfl rfl rfl | exact Ev.pickAnd rfl rfl rfl)) ?_
  refine OPS.val rfl rfl rfl (Ev.mvI rfl) ?_
  refine OPS.val rfl rfl rfl (Ev.asB rfl) ?_
  refine OPS.val rfl rfl rfl (Ev.asI rfl) ?_
  refine OPS.nil ?_
  refine WP.ret ⟨_, rfl, ?_⟩
  refine ⟨?_, H.below⟩
  by_cases h : discErr l c r = 0
  · have e1 : (if discErr l c r = 0 then whereV c (-1) (edgesL l) else 0) = whereV c (-1) (edgesL l) := if_pos h
    have e2 : (if discErr l c r = 0 then leastV c r 1 (edgesL l) else 0) = leastV c r 1 (edgesL l) := if_pos h
    unfold coverV
    rw [e1, e2, ← Bool.and_assoc]; rfl
  · have e0 : decide (discErr l c r = 0) = false := decide_eq_false h
    rw [e0]; rfl
end Go.Proofs.Ytkfklebaeifdnaa
