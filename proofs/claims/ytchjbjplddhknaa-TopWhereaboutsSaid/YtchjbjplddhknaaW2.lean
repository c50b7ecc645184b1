/-
  Walks: compare, Less, order, the closure of Set.
-/
import Derived.Test.YtchjbjplddhknaaDFacts
import Derived.Sort.Grow
import Derived.Deep.Draws
import Derived.Shelf.SlSortCmp.WholeK
import Derived.Sort.LotA
import Derived.Ground.SlsfProg
import Derived.Test.YtchjbjplddhknaaProg
import Derived.Test.YtchjbjplddhknaaEng
import Derived.Test.YtchjbjplddhknaaHeld
set_option linter.all false
namespace Go.Proofs.Ytchjbjplddhknaa.D
open Go Go.WD Go.RowKit

set_option maxHeartbeats 1000000 in
theorem bld_107_0_1_2_3_4_5_6_7_8 {e : Env} {x0 x1 x2 x3 x4 x5 x6 x7 x8 : Operand} {n0 n1 n2 n3 n4 n5 n6 n7 n8 : Int} (h0 : ev e x0 = .int .i64 n0) (h1 : ev e x1 = .int .i64 n1) (h2 : ev e x2 = .int .i64 n2) (h3 : ev e x3 = .int .i64 n3) (h4 : ev e x4 = .int .i64 n4) (h5 : ev e x5 = .int .i64 n5) (h6 : ev e x6 = .int .i64 n6) (h7 : ev e x7 = .int .i64 n7) (h8 : ev e x8 = .int .i64 n8) : ∀ w, (Instr.build 107 #[(0, ev e x0), (1, ev e x1), (2, ev e x2), (3, ev e x3), (4, ev e x4), (5, ev e x5), (6, ev e x6), (7, ev e x7), (8, ev e x8)]).run Try.prog w = .ok (.agg #[.int .i64 n0, .int .i64 n1, .int .i64 n2, .int .i64 n3, .int .i64 n4, .int .i64 n5, .int .i64 n6, .int .i64 n7, .int .i64 n8]) w := by
  intro w
  rw [h0, h1, h2, h3, h4, h5, h6, h7, h8]
  simp [Instr.build, go_sem]
theorem cell9 (x : Evt) {j : Nat} (h : j < 9) : ((evK x).map I)[0 + j * 1]? = some (I ((evK x).getD j 0)) := by
  have h' : 0 + j * 1 < (evK x).length := by rw [evK_len]; omega
  rw [List.getElem?_map, List.getElem?_eq_getElem h', List.getD_eq_getElem?_getD, List.getElem?_eq_getElem (by rw [evK_len]; omega)]
  simp
theorem cmpE_at {a b : List Int} {j n : Nat} (ha : a.length = n) (hb : b.length = n) (hj : j < n) (he : ∀ i, i < j → a.getD i 0 = b.getD i 0) : cmpL a b = if cmpI (a.getD j 0) (b.getD j 0) ≠ 0 then cmpI (a.getD j 0) (b.getD j 0) else cmpL (a.drop (j + 1)) (b.drop (j + 1)) := by
  rw [cmpL_drop (j := j) (by omega) (by omega) he, List.drop_eq_getElem_cons (show j < a.length by omega), List.drop_eq_getElem_cons (show j < b.length by omega), cmpL]
  simp [List.getD_eq_getElem?_getD, show j < a.length by omega, show j < b.length by omega]
theorem compareE (x y : Evt) (w0 : World) : Calls Try.prog 38 #[.agg (evC x).toArray, .agg (evC y).toArray] w0 fun e w' => e = .returned (I (cmpE x y)) ∧ Bel w0.heap.size w0 w' := by
  have H := SH.refl w0
  unfold evC
  refine Calls.ofWP Try.func38 rfl Try.results38 Try.ntmps38 rfl ?_
  refine WP.seq ?_
  refine WP.region ?_
  refine OPS.box rfl rfl rfl rfl (cA rfl) H ?_
  clear H; intro g2 w H
  refine OPS.box rfl rfl rfl rfl (cA rfl) H ?_
  clear H; intro g3 w H
  refine OPS.val rfl rfl rfl (Ev.asI rfl) ?_
  refine OPS.nil ?_
  refine WP.seq ?_
  refine WP.region ?_
  refine OPS.val rfl rfl rfl (Ev.fieldAddr (fld_run rfl) rfl) ?_
  refine OPS.val rfl rfl rfl (Ev.load1 (agg_run rfl) rfl (by first | exact H.ldL 0 rfl _ rfl | exact H.ldL 1 rfl _ rfl | exact H.ldL 2 rfl _ rfl | exact H.ldL 3 rfl _ rfl | exact H.ldL 4 rfl _ rfl | exact H.ldL 5 rfl _ rfl | exact H.ldL 6 rfl _ rfl | exact H.ldL 7 rfl _ rfl | exact H.ld0 (by assumption) | assumption | exact H.ldS (by assumption) (by assumption))) ?_
  refine OPS.val rfl rfl rfl (Ev.fieldAddr (fld_run rfl) rfl) ?_
  refine OPS.val rfl rfl rfl (Ev.load1 (agg_run rfl) rfl (by first | exact H.ldL 0 rfl _ rfl | exact H.ldL 1 rfl _ rfl | exact H.ldL 2 rfl _ rfl | exact H.ldL 3 rfl _ rfl | exact H.ldL 4 rfl _ rfl | exact H.ldL 5 rfl _ rfl | exact H.ldL 6 rfl _ rfl | exact H.ldL 7 rfl _ rfl | exact H.ld0 (by assumption) | assumption | exact H.ldS (by assumption) (by assumption))) ?_
  refine OPS.val rfl rfl rfl (Ev.fieldAddr (fld_run rfl) rfl) ?_
  refine OPS.val rfl rfl rfl (Ev.load1 (agg_run rfl) rfl (by first | exact H.ldL 0 rfl _ rfl | exact H.ldL 1 rfl _ rfl | exact H.ldL 2 rfl _ rfl | exact H.ldL 3 rfl _ rfl | exact H.ldL 4 rfl _ rfl | exact H.ldL 5 rfl _ rfl | exact H.ldL 6 rfl _ rfl | exact H.ldL 7 rfl _ rfl | exact H.ld0 (by assumption) | assumption | exact H.ldS (by assumption) (by assumption))) ?_
  refine OPS.val rfl rfl rfl (Ev.fieldAddr (fld_run rfl) rfl) ?_
  refine OPS.val rfl rfl rfl (Ev.load1 (agg_run rfl) rfl (by first | exact H.ldL 0 rfl _ rfl | exact H.ldL 1 rfl _ rfl | exact H.ldL 2 rfl _ rfl | exact H.ldL 3 rfl _ rfl | exact H.ldL 4 rfl _ rfl | exact H.ldL 5 rfl _ rfl | exact H.ldL 6 rfl _ rfl | exact H.ldL 7 rfl _ rfl | exact H.ld0 (by assumption) | assumption | exact H.ldS (by assumption) (by assumption))) ?_
  refine OPS.val rfl rfl rfl (Ev.fieldAddr (fld_run rfl) rfl) ?_
  refine OPS.val rfl rfl rfl (Ev.load1 (agg_run rfl) rfl (by first | exact H.ldL 0 rfl _ rfl | exact H.ldL 1 rfl _ rfl | exact H.ldL 2 rfl _ rfl | exact H.ldL 3 rfl _ rfl | exact H.ldL 4 rfl _ rfl | exact H.ldL 5 rfl _ rfl | exact H.ldL 6 rfl _ rfl | exact H.ldL 7 rfl _ rfl | exact H.ld0 (by assumption) | assumption | exact H.ldS (by assumption) (by assumption))) ?_
  refine OPS.val rfl rfl rfl (Ev.fieldAddr (fld_run rfl) rfl) ?_
  refine OPS.val rfl rfl rfl (Ev.load1 (agg_run rfl) rfl (by first | exact H.ldL 0 rfl _ rfl | exact H.ldL 1 rfl _ rfl | exact H.ldL 2 rfl _ rfl | exact H.ldL 3 rfl _ rfl | exact H.ldL 4 rfl _ rfl | exact H.ldL 5 rfl _ rfl | exact H.ldL 6 rfl _ rfl | exact H.ldL 7 rfl _ rfl | exact H.ld0 (by assumption) | assumption | exact H.ldS (by assumption) (by assumption))) ?_
  refine OPS.val rfl rfl rfl (Ev.fieldAddr (fld_run rfl) rfl) ?_
  refine OPS.val rfl rfl rfl (Ev.load1 (agg_run rfl) rfl (by first | exact H.ldL 0 rfl _ rfl | exact H.ldL 1 rfl _ rfl | exact H.ldL 2 rfl _ rfl | exact H.ldL 3 rfl _ rfl | exact H.ldL 4 rfl _ rfl | exact H.ldL 5 rfl _ rfl | exact H.ldL 6 rfl _ rfl | exact H.ldL 7 rfl _ rfl | exact H.ld0 (by assumption) | assumption | exact H.ldS (by assumption) (by assumption))) ?_
  refine OPS.val rfl rfl rfl (Ev.fieldAddr (fld_run rfl) rfl) ?_
  refine OPS.val rfl rfl rfl (Ev.load1 (agg_run rfl) rfl (by first | exact H.ldL 0 rfl _ rfl | exact H.ldL 1 rfl _ rfl | exact H.ldL 2 rfl _ rfl | exact H.ldL 3 rfl _ rfl | exact H.ldL 4 rfl _ rfl | exact H.ldL 5 rfl _ rfl | exact H.ldL 6 rfl _ rfl | exact H.ldL 7 rfl _ rfl | exact H.ld0 (by assumption) | assumption | exact H.ldS (by assumption) (by assumption))) ?_
  refine OPS.val rfl rfl rfl (Ev.fieldAddr (fld_run rfl) rfl) ?_
  refine OPS.val rfl rfl rfl (Ev.load1 (agg_run rfl) rfl (by first | exact H.ldL 0 rfl _ rfl | exact H.ldL 1 rfl _ rfl | exact H.ldL 2 rfl _ rfl | exact H.ldL 3 rfl _ rfl | exact H.ldL 4 rfl _ rfl | exact H.ldL 5 rfl _ rfl | exact H.ldL 6 rfl _ rfl | exact H.ldL 7 rfl _ rfl | exact H.ld0 (by assumption) | assumption | exact H.ldS (by assumption) (by assumption))) ?_
  refine OPS.val rfl rfl rfl (Ev.build (bld_107_0_1_2_3_4_5_6_7_8 rfl rfl rfl rfl rfl rfl rfl rfl rfl)) ?_
  refine OPS.alloc rfl rfl rfl rfl (zero_run rfl) rfl H ?_
  clear H; intro g5 w H
  first | refine OPS.store 0 _ rfl rfl rfl (size_run rfl) rfl (cA rfl) rfl rfl H rfl (by simp) ?_ | refine OPS.store 1 _ rfl rfl rfl (size_run rfl) rfl (cA rfl) rfl rfl H rfl (by simp) ?_ | refine OPS.store 2 _ rfl rfl rfl (size_run rfl) rfl (cA rfl) rfl rfl H rfl (by simp) ?_ | refine OPS.store 3 _ rfl rfl rfl (size_run rfl) rfl (cA rfl) rfl rfl H rfl (by simp) ?_ | refine OPS.store 4 _ rfl rfl rfl (size_run rfl) rfl (cA rfl) rfl rfl H rfl (by simp) ?_ | refine OPS.store 5 _ rfl rfl rfl (size_run rfl) rfl (cA rfl) rfl rfl H rfl (by simp) ?_ | refine OPS.store 6 _ rfl rfl rfl (size_run rfl) rfl (cA rfl) rfl rfl H rfl (by simp) ?_ | refine OPS.store 7 _ rfl rfl rfl (size_run rfl) rfl (cA rfl) rfl rfl H rfl (by simp) ?_ | refine OPS.store 8 _ rfl rfl rfl (size_run rfl) rfl (cA rfl) rfl rfl H rfl (by simp) ?_
  clear H; intro w H; try simp only [List.set_cons_zero, List.set_cons_succ, putL, Nat.zero_add] at H
  refine OPS.nil ?_
  refine WP.seq ?_
  refine WP.region ?_
  refine OPS.val rfl rfl rfl (Ev.fieldAddr (fld_run rfl) rfl) ?_
  refine OPS.val rfl rfl rfl (Ev.load1 (agg_run rfl) rfl (by first | exact H.ldL 0 rfl _ rfl | exact H.ldL 1 rfl _ rfl | exact H.ldL 2 rfl _ rfl | exact H.ldL 3 rfl _ rfl | exact H.ldL 4 rfl _ rfl | exact H.ldL 5 rfl _ rfl | exact H.ldL 6 rfl _ rfl | exact H.ldL 7 rfl _ rfl | exact H.ld0 (by assumption) | assumption | exact H.ldS (by assumption) (by assumption))) ?_
  refine OPS.val rfl rfl rfl (Ev.fieldAddr (fld_run rfl) rfl) ?_
  refine OPS.val rfl rfl rfl (Ev.load1 (agg_run rfl) rfl (by first | exact H.ldL 0 rfl _ rfl | exact H.ldL 1 rfl _ rfl | exact H.ldL 2 rfl _ rfl | exact H.ldL 3 rfl _ rfl | exact H.ldL 4 rfl _ rfl | exact H.ldL 5 rfl _ rfl | exact H.ldL 6 rfl _ rfl | exact H.ldL 7 rfl _ rfl | exact H.ld0 (by assumption) | assumption | exact H.ldS (by assumption) (by assumption))) ?_
  refine OPS.val rfl rfl rfl (Ev.fieldAddr (fld_run rfl) rfl) ?_
  refine OPS.val rfl rfl rfl (Ev.load1 (agg_run rfl) rfl (by first | exact H.ldL 0 rfl _ rfl | exact H.ldL 1 rfl _ rfl | exact H.ldL 2 rfl _ rfl | exact H.ldL 3 rfl _ rfl | exact H.ldL 4 rfl _ rfl | exact H.ldL 5 rfl _ rfl | exact H.ldL 6 rfl _ rfl | exact H.ldL 7 rfl _ rfl | exact H.ld0 (by assumption) | assumption | exact H.ldS (by assumption) (by assumption))) ?_
  refine OPS.val rfl rfl rfl (Ev.fieldAddr (fld_run rfl) rfl) ?_
  refine OPS.val rfl rfl rfl (Ev.load1 (agg_run rfl) rfl (by first | exact H.ldL 0 rfl _ rfl | exact H.ldL 1 rfl _ rfl | exact H.ldL 2 rfl _ rfl | exact H.ldL 3 rfl _ rfl | exact H.ldL 4 rfl _ rfl | exact H.ldL 5 rfl _ rfl | exact H.ldL 6 rfl _ rfl | exact H.ldL 7 rfl _ rfl | exact H.ld0 (by assumption) | assumption | exact H.ldS (by assumption) (by assumption))) ?_
  refine OPS.val rfl rfl rfl (Ev.fieldAddr (fld_run rfl) rfl) ?_
  refine OPS.val rfl rfl rfl (Ev.load1 (agg_run rfl) rfl (by first | exact H.ldL 0 rfl _ rfl | exact H.ldL 1 rfl _ rfl | exact H.ldL 2 rfl _ rfl | exact H.ldL 3 rfl _ rfl | exact H.ldL 4 rfl _ rfl | exact H.ldL 5 rfl _ rfl | exact H.ldL 6 rfl _ rfl | exact H.ldL 7 rfl _ rfl | exact H.ld0 (by assumption) | assumption | exact H.ldS (by assumption) (by assumption))) ?_
  refine OPS.val rfl rfl rfl (Ev.fieldAddr (fld_run rfl) rfl) ?_
  refine OPS.val rfl rfl rfl (Ev.load1 (agg_run rfl) rfl (by first | exact H.ldL 0 rfl _ rfl | exact H.ldL 1 rfl _ rfl | exact H.ldL 2 rfl _ rfl | exact H.ldL 3 rfl _ rfl | exact H.ldL 4 rfl _ rfl | exact H.ldL 5 rfl _ rfl | exact H.ldL 6 rfl _ rfl | exact H.ldL 7 rfl _ rfl | exact H.ld0 (by assumption) | assumption | exact H.ldS (by assumption) (by assumption))) ?_
  refine OPS.val rfl rfl rfl (Ev.fieldAddr (fld_run rfl) rfl) ?_
  refine OPS.val rfl rfl rfl (Ev.load1 (agg_run rfl) rfl (by first | exact H.ldL 0 rfl _ rfl | exact H.ldL 1 rfl _ rfl | exact H.ldL 2 rfl _ rfl | exact H.ldL 3 rfl _ rfl | exact H.ldL 4 rfl _ rfl | exact H.ldL 5 rfl _ rfl | exact H.ldL 6 rfl _ rfl | exact H.ldL 7 rfl _ rfl | exact H.ld0 (by assumption) | assumption | exact H.ldS (by assumption) (by assumption))) ?_
  refine OPS.val rfl rfl rfl (Ev.fieldAddr (fld_run rfl) rfl) ?_
  refine OPS.val rfl rfl rfl (Ev.load1 (agg_run rfl) rfl (by first | exact H.ldL 0 rfl _ rfl | exact H.ldL 1 rfl _ rfl | exact H.ldL 2 rfl _ rfl | exact H.ldL 3 rfl _ rfl | exact H.ldL 4 rfl _ rfl | exact H.ldL 5 rfl _ rfl | exact H.ldL 6 rfl _ rfl | exact H.ldL 7 rfl _ rfl | exact H.ld0 (by assumption) | assumption | exact H.ldS (by assumption) (by assumption))) ?_
  refine OPS.val rfl rfl rfl (Ev.fieldAddr (fld_run rfl) rfl) ?_
  refine OPS.val rfl rfl rfl (Ev.load1 (agg_run rfl) rfl (by first | exact H.ldL 0 rfl _ rfl | exact H.ldL 1 rfl _ rfl | exact H.ldL 2 rfl _ rfl | exact H.ldL 3 rfl _ rfl | exact H.ldL 4 rfl _ rfl | exact H.ldL 5 rfl _ rfl | exact H.ldL 6 rfl _ rfl | exact H.ldL 7 rfl _ rfl | exact H.ld0 (by assumption) | assumption | exact H.ldS (by assumption) (by assumption))) ?_
  refine OPS.val rfl rfl rfl (Ev.build (bld_107_0_1_2_3_4_5_6_7_8 rfl rfl rfl rfl rfl rfl rfl rfl rfl)) ?_
  refine OPS.alloc rfl rfl rfl rfl (zero_run rfl) rfl H ?_
  clear H; intro g6 w H
  first | refine OPS.store 0 _ rfl rfl rfl (size_run rfl) rfl (cA rfl) rfl rfl H rfl (by simp) ?_ | refine OPS.store 1 _ rfl rfl rfl (size_run rfl) rfl (cA rfl) rfl rfl H rfl (by simp) ?_ | refine OPS.store 2 _ rfl rfl rfl (size_run rfl) rfl (cA rfl) rfl rfl H rfl (by simp) ?_ | refine OPS.store 3 _ rfl rfl rfl (size_run rfl) rfl (cA rfl) rfl rfl H rfl (by simp) ?_ | refine OPS.store 4 _ rfl rfl rfl (size_run rfl) rfl (cA rfl) rfl rfl H rfl (by simp) ?_ | refine OPS.store 5 _ rfl rfl rfl (size_run rfl) rfl (cA rfl) rfl rfl H rfl (by simp) ?_ | refine OPS.store 6 _ rfl rfl rfl (size_run rfl) rfl (cA rfl) rfl rfl H rfl (by simp) ?_ | refine OPS.store 7 _ rfl rfl rfl (size_run rfl) rfl (cA rfl) rfl rfl H rfl (by simp) ?_ | refine OPS.store 8 _ rfl rfl rfl (size_run rfl) rfl (cA rfl) rfl rfl H rfl (by simp) ?_
  clear H; intro w H; try simp only [List.set_cons_zero, List.set_cons_succ, putL, Nat.zero_add] at H
  refine OPS.nil ?_
  refine WP.seq ?_
  refine WP.seq ?_
  refine WP.region ?_
  refine OPS.val rfl rfl rfl (Ev.mvI rfl) ?_
  refine OPS.nil ?_
  refine WP.block ?_
  refine WP.loop [4, 7, 8, 47, 48, 49, 50, 51, 52, 53, 54, 55, 56, 57, 58, 59, 60] (fun k e w' => ∃ (j : Nat), j + k = 9 ∧ e 47 = I j ∧ (∀ i, i < j → (evK x).getD i 0 = (evK y).getD i 0) ∧ SH w0 [] w' [⟨g6, 107, (evK y).map I⟩, ⟨g5, 107, (evK x).map I⟩]) (9) (⟨0, by omega, rfl, fun _ h => absurd h (by omega), H.drop (.cons₂ _ (.cons₂ _ (List.nil_sublist _)))⟩) ?_
  clear H
  rintro k u w ⟨j, hk, h47, hall, H⟩
  refine WP.know (t := 47) h47 ?_
  refine WP.seq ?_
  refine WP.region ?_
  refine OPS.val rfl rfl rfl (Ev.lss rfl rfl) ?_
  refine OPS.nil ?_
  refine WP.seq ?_
  refine WP.cond rfl (fun hc4 => ?_) (fun hc4 => ?_)
  · have hlt : j < 9 := by have h := of_decide_eq_true hc4; omega
    have hx : ((evK x).map I)[0 + j * 1]? = some (I ((evK x).getD j 0)) := cell9 x hlt
    have hy : ((evK y).map I)[0 + j * 1]? = some (I ((evK y).getD j 0)) := cell9 y hlt
    refine WP.skip ?_
    refine WP.seq ?_
    refine WP.block ?_
    refine WP.seq ?_
    refine WP.region ?_
    refine OPS.val rfl rfl rfl (Ev.mvI rfl) ?_
    refine OPS.val rfl rfl rfl (Ev.asI rfl) ?_
    refine OPS.nil ?_
    refine WP.seq ?_
    refine WP.rquiet mixed (by kernel_rfl) H ?_
    clear H; intro w hbw6 H
    refine OPS.val rfl rfl rfl (Ev.mvI rfl) ?_
    refine OPS.val rfl rfl rfl (Ev.indexAddrA (arr_run rfl) (size_run rfl) rfl rfl rfl (by omega)) ?_
    refine OPS.val rfl rfl rfl (Ev.load1 (agg_run rfl) rfl (H.ldL 1 rfl _ hx)) ?_
    refine OPS.val rfl rfl rfl (Ev.mvI rfl) ?_
    refine OPS.val rfl rfl rfl (Ev.indexAddrA (arr_run rfl) (size_run rfl) rfl rfl rfl (by omega)) ?_
    refine OPS.val rfl rfl rfl (Ev.load1 (agg_run rfl) rfl (H.ldL 0 rfl _ hy)) ?_
    refine OPS.callq rfl rfl rfl (EvC.func (fun_run rfl)) (fun w2 hb2 => cmpCompare ((evK x).getD j 0) ((evK y).getD j 0) _) ?_
    refine OPS.val rfl rfl rfl (Ev.asI rfl) ?_
    refine OPS.nilq H ?_
    clear H; intro w hbx6 H
    refine WP.seq ?_
    refine WP.region ?_
    refine OPS.val rfl rfl rfl (Ev.mvI rfl) ?_
    refine OPS.val rfl rfl rfl (Ev.neq rfl rfl) ?_
    refine OPS.nil ?_
    refine WP.cond rfl (fun hc7 => ?_) (fun hc7 => ?_)
    · refine WP.seq ?_
      refine WP.region ?_
      refine OPS.val rfl rfl rfl (Ev.mvI rfl) ?_
      refine OPS.val rfl rfl rfl (Ev.asI rfl) ?_
      refine OPS.nil ?_
      refine WP.ret ⟨_, rfl, ?_⟩
      have hne : cmpI ((evK x).getD j 0) ((evK y).getD j 0) ≠ 0 := by simpa using hc7
      exact ⟨by rw [cmpE, cmpE_at (evK_len x) (evK_len y) hlt hall, if_pos hne]; rfl, H.below⟩
    have heq : cmpI ((evK x).getD j 0) ((evK y).getD j 0) = 0 := by simpa using hc7
    refine WP.skip ?_
    refine WP.region ?_
    refine OPS.val rfl rfl rfl (Ev.add rfl rfl (by unfold fits; omega)) ?_
    refine OPS.val rfl rfl rfl (Ev.mvI rfl) ?_
    refine OPS.nil ?_
    exact ⟨(by repeat (first | exact Agree.refl _ _ | exact Agree.mix _ _ _ | refine Agree.upd rfl ?_ | refine Agree.mix2 rfl ?_)), k - 1, by omega, j + 1, by omega, rfl, (fun i h2 => by
      rcases Nat.lt_or_eq_of_le (Nat.le_of_lt_succ h2) with h | rfl
      · exact hall i h
      · exact cmpI_zero.1 heq), H⟩
  refine WP.exit ?_
  refine XB.hit ?_
  refine WP.seq ?_
  refine WP.region ?_
  refine OPS.val rfl rfl rfl (Ev.asI rfl) ?_
  refine OPS.nil ?_
  refine WP.ret ⟨_, rfl, ?_⟩
  have hj : j = 9 := by have h := of_decide_eq_false hc4; omega
  subst hj
  exact ⟨by rw [cmpE, cmpL_drop (j := 9) (Nat.le_of_eq (evK_len x).symm) ((evK_len x).trans (evK_len y).symm) hall]; rfl, H.below⟩
theorem lessE (x y : Evt) (w0 : World) : Calls Try.prog 44 #[.agg (evC x).toArray, .agg (evC y).toArray] w0 fun e w' => e = .returned (.bool (decide (cmpE x y < 0))) ∧ Bel w0.heap.size w0 w' := by
  have H := SH.refl w0
  unfold evC
  refine Calls.ofWP Try.func44 rfl Try.results44 Try.ntmps44 rfl ?_
  refine WP.seq ?_
  refine WP.region ?_
  refine OPS.box rfl rfl rfl rfl (cA rfl) H ?_
  clear H; intro g2 w H
  refine OPS.box rfl rfl rfl rfl (cA rfl) H ?_
  clear H; intro g3 w H
  refine OPS.val rfl rfl rfl (Ev.asB rfl) ?_
  refine OPS.nil ?_
  refine WP.seq ?_
  refine WP.region ?_
  refine OPS.val rfl rfl rfl ((by first | exact Ev.loadO 0 H rfl (agg_run rfl) (size_run rfl) (by first | assumption | rfl) rfl | exact Ev.loadO 1 H rfl (agg_run rfl) (size_run rfl) (by first | assumption | rfl) rfl | exact Ev.loadO 2 H rfl (agg_run rfl) (size_run rfl) (by first | assumption | rfl) rfl | exact Ev.loadO 3 H rfl (agg_run rfl) (size_run rfl) (by first | assumption | rfl) rfl | exact Ev.loadO 4 H rfl (agg_run rfl) (size_run rfl) (by first | assumption | rfl) rfl | exact Ev.loadO 5 H rfl (agg_run rfl) (size_run rfl) (by first | assumption | rfl) rfl | exact Ev.loadO 6 H rfl (agg_run rfl) (size_run rfl) (by first | assumption | rfl) rfl | (change Ev _ _ _ _ (Op.load 56 (Operand.tmp 2)) _; fail))) ?_
  refine OPS.val rfl rfl rfl ((by first | exact Ev.loadO 0 H rfl (agg_run rfl) (size_run rfl) (by first | assumption | rfl) rfl | exact Ev.loadO 1 H rfl (agg_run rfl) (size_run rfl) (by first | assumption | rfl) rfl | exact Ev.loadO 2 H rfl (agg_run rfl) (size_run rfl) (by first | assumption | rfl) rfl | exact Ev.loadO 3 H rfl (agg_run rfl) (size_run rfl) (by first | assumption | rfl) rfl | exact Ev.loadO 4 H rfl (agg_run rfl) (size_run rfl) (by first | assumption | rfl) rfl | exact Ev.loadO 5 H rfl (agg_run rfl) (size_run rfl) (by first | assumption | rfl) rfl | exact Ev.loadO 6 H rfl (agg_run rfl) (size_run rfl) (by first | assumption | rfl) rfl | (change Ev _ _ _ _ (Op.load 56 (Operand.tmp 3)) _; fail))) ?_
  refine OPS.call (d := some 7) rfl rfl rfl (EvC.func (fun_run rfl)) (compareE x y _) ?_
  rintro _ w ⟨rfl, hb⟩
  refine ⟨_, rfl, ?_⟩
  replace H := H.toBelow hb; clear hb
  refine OPS.val rfl rfl rfl (Ev.lss rfl rfl) ?_
  refine OPS.val rfl rfl rfl (Ev.asB rfl) ?_
  refine OPS.nil ?_
  refine WP.ret ⟨_, rfl, ?_⟩
  exact ⟨rfl, H.below⟩
theorem orderE (x y : Evt) (w0 : World) : Calls Try.prog 26 #[.agg (evC x).toArray, .agg (evC y).toArray] w0 fun e w' => e = .returned (I (ordE x y)) ∧ Bel w0.heap.size w0 w' := by
  have H := SH.refl w0
  unfold evC
  refine Calls.ofWP Try.func26 rfl Try.results26 Try.ntmps26 rfl ?_
  refine WP.seq ?_
  refine WP.region ?_
  refine OPS.box rfl rfl rfl rfl (cA rfl) H ?_
  clear H; intro g2 w H
  refine OPS.box rfl rfl rfl rfl (cA rfl) H ?_
  clear H; intro g3 w H
  refine OPS.val rfl rfl rfl (Ev.asI rfl) ?_
  refine OPS.nil ?_
  refine WP.seq ?_
  refine WP.block ?_
  refine WP.seq ?_
  refine WP.region ?_
  refine OPS.val rfl rfl rfl ((by first | exact Ev.loadO 0 H rfl (agg_run rfl) (size_run rfl) (by first | assumption | rfl) rfl | exact Ev.loadO 1 H rfl (agg_run rfl) (size_run rfl) (by first | assumption | rfl) rfl | exact Ev.loadO 2 H rfl (agg_run rfl) (size_run rfl) (by first | assumption | rfl) rfl | exact Ev.loadO 3 H rfl (agg_run rfl) (size_run rfl) (by first | assumption | rfl) rfl | exact Ev.loadO 4 H rfl (agg_run rfl) (size_run rfl) (by first | assumption | rfl) rfl | exact Ev.loadO 5 H rfl (agg_run rfl) (size_run rfl) (by first | assumption | rfl) rfl | exact Ev.loadO 6 H rfl (agg_run rfl) (size_run rfl) (by first | assumption | rfl) rfl | (change Ev _ _ _ _ (Op.load 56 (Operand.tmp 2)) _; fail))) ?_
  refine OPS.val rfl rfl rfl ((by first | exact Ev.loadO 0 H rfl (agg_run rfl) (size_run rfl) (by first | assumption | rfl) rfl | exact Ev.loadO 1 H rfl (agg_run rfl) (size_run rfl) (by first | assumption | rfl) rfl | exact Ev.loadO 2 H rfl (agg_run rfl) (size_run rfl) (by first | assumption | rfl) rfl | exact Ev.loadO 3 H rfl (agg_run rfl) (size_run rfl) (by first | assumption | rfl) rfl | exact Ev.loadO 4 H rfl (agg_run rfl) (size_run rfl) (by first | assumption | rfl) rfl | exact Ev.loadO 5 H rfl (agg_run rfl) (size_run rfl) (by first | assumption | rfl) rfl | exact Ev.loadO 6 H rfl (agg_run rfl) (size_run rfl) (by first | assumption | rfl) rfl | (change Ev _ _ _ _ (Op.load 56 (Operand.tmp 3)) _; fail))) ?_
  refine OPS.call (d := some 8) rfl rfl rfl (EvC.func (fun_run rfl)) (lessE x y _) ?_
  rintro _ w ⟨rfl, hb⟩
  refine ⟨_, rfl, ?_⟩
  replace H := H.toBelow hb; clear hb
  refine OPS.val rfl rfl rfl (Ev.asB rfl) ?_
  refine OPS.nil ?_
  refine WP.cond rfl (fun hc1 => ?_) (fun hc1 => ?_)
  · refine WP.seq ?_
    refine WP.region ?_
    refine OPS.val rfl rfl rfl (Ev.asI rfl) ?_
    refine OPS.nil ?_
    refine WP.ret ⟨_, rfl, ?_⟩
    have h : cmpE x y < 0 := by simpa using hc1
    exact ⟨by rw [ordE, if_pos h]; rfl, H.below⟩
  refine WP.seq ?_
  refine WP.region ?_
  refine OPS.val rfl rfl rfl ((by first | exact Ev.loadO 0 H rfl (agg_run rfl) (size_run rfl) (by first | assumption | rfl) rfl | exact Ev.loadO 1 H rfl (agg_run rfl) (size_run rfl) (by first | assumption | rfl) rfl | exact Ev.loadO 2 H rfl (agg_run rfl) (size_run rfl) (by first | assumption | rfl) rfl | exact Ev.loadO 3 H rfl (agg_run rfl) (size_run rfl) (by first | assumption | rfl) rfl | exact Ev.loadO 4 H rfl (agg_run rfl) (size_run rfl) (by first | assumption | rfl) rfl | exact Ev.loadO 5 H rfl (agg_run rfl) (size_run rfl) (by first | assumption | rfl) rfl | exact Ev.loadO 6 H rfl (agg_run rfl) (size_run rfl) (by first | assumption | rfl) rfl | (change Ev _ _ _ _ (Op.load 56 (Operand.tmp 3)) _; fail))) ?_
  refine OPS.val rfl rfl rfl ((by first | exact Ev.loadO 0 H rfl (agg_run rfl) (size_run rfl) (by first | assumption | rfl) rfl | exact Ev.loadO 1 H rfl (agg_run rfl) (size_run rfl) (by first | assumption | rfl) rfl | exact Ev.loadO 2 H rfl (agg_run rfl) (size_run rfl) (by first | assumption | rfl) rfl | exact Ev.loadO 3 H rfl (agg_run rfl) (size_run rfl) (by first | assumption | rfl) rfl | exact Ev.loadO 4 H rfl (agg_run rfl) (size_run rfl) (by first | assumption | rfl) rfl | exact Ev.loadO 5 H rfl (agg_run rfl) (size_run rfl) (by first | assumption | rfl) rfl | exact Ev.loadO 6 H rfl (agg_run rfl) (size_run rfl) (by first | assumption | rfl) rfl | (change Ev _ _ _ _ (Op.load 56 (Operand.tmp 2)) _; fail))) ?_
  refine OPS.call (d := some 12) rfl rfl rfl (EvC.func (fun_run rfl)) (lessE y x _) ?_
  rintro _ w ⟨rfl, hb⟩
  refine ⟨_, rfl, ?_⟩
  replace H := H.toBelow hb; clear hb
  refine OPS.val rfl rfl rfl (Ev.asB rfl) ?_
  refine OPS.nil ?_
  refine WP.cond rfl (fun hc3 => ?_) (fun hc3 => ?_)
  · refine WP.seq ?_
    refine WP.region ?_
    refine OPS.val rfl rfl rfl (Ev.asI rfl) ?_
    refine OPS.nil ?_
    refine WP.ret ⟨_, rfl, ?_⟩
    have h : ¬ cmpE x y < 0 := by simpa using hc1
    have h2 : cmpE y x < 0 := by simpa using hc3
    exact ⟨by rw [ordE, if_neg h, if_pos h2]; rfl, H.below⟩
  refine WP.skip ?_
  refine WP.seq ?_
  refine WP.region ?_
  refine OPS.val rfl rfl rfl (Ev.asI rfl) ?_
  refine OPS.nil ?_
  refine WP.ret ⟨_, rfl, ?_⟩
  have h : ¬ cmpE x y < 0 := by simpa using hc1
  have h2 : ¬ cmpE y x < 0 := by simpa using hc3
  exact ⟨by rw [ordE, if_neg h, if_neg h2]; rfl, H.below⟩
theorem setNum (x y : Evt) (w0 : World) : Calls Try.prog 35 #[.agg (evC x).toArray, .agg (evC y).toArray] w0 fun e w' => e = .returned (I (numC x y)) ∧ Bel w0.heap.size w0 w' := by
  have H := SH.refl w0
  unfold evC
  refine Calls.ofWP Try.func35 rfl Try.results35 Try.ntmps35 rfl ?_
  refine WP.seq ?_
  refine WP.region ?_
  refine OPS.box rfl rfl rfl rfl (cA rfl) H ?_
  clear H; intro g2 w H
  refine OPS.box rfl rfl rfl rfl (cA rfl) H ?_
  clear H; intro g3 w H
  refine OPS.val rfl rfl rfl (Ev.asI rfl) ?_
  refine OPS.nil ?_
  refine WP.seq ?_
  refine WP.rheldC [4, 5, 6, 7, 8, 9, 10, 11, 12, 13, 14, 15, 16, 17, 18, 19] (fun u w' => u 4 = I (numC x y) ∧ SH w0 [] w' [⟨g3, 56, evC y⟩, ⟨g2, 56, evC x⟩]) mixed H ?_ ?_
  · clear H; intro w hbw1 H
    refine OPH.take 0 rfl rfl rfl rfl (by kernel_rfl) (by kernel_rfl) (by kernel_rfl) rfl (by first | exact H | exact H.drop (List.sublist_cons_self _ _) | exact H.drop ((List.sublist_cons_self _ _).trans (List.sublist_cons_self _ _)) | exact H.drop ((List.sublist_cons_self _ _).trans ((List.sublist_cons_self _ _).trans (List.sublist_cons_self _ _))) | exact H.drop ((List.sublist_cons_self _ _).trans ((List.sublist_cons_self _ _).trans ((List.sublist_cons_self _ _).trans (List.sublist_cons_self _ _)))) | exact H.drop ((List.sublist_cons_self _ _).trans ((List.sublist_cons_self _ _).trans ((List.sublist_cons_self _ _).trans ((List.sublist_cons_self _ _).trans (List.sublist_cons_self _ _)))))) (fun w H => Ev.fieldAddr (fld_run rfl) rfl) ?_
    refine OPH.take 1 rfl rfl rfl rfl (by kernel_rfl) (by kernel_rfl) (by kernel_rfl) rfl (by first | exact H | exact H.drop (List.sublist_cons_self _ _) | exact H.drop ((List.sublist_cons_self _ _).trans (List.sublist_cons_self _ _)) | exact H.drop ((List.sublist_cons_self _ _).trans ((List.sublist_cons_self _ _).trans (List.sublist_cons_self _ _))) | exact H.drop ((List.sublist_cons_self _ _).trans ((List.sublist_cons_self _ _).trans ((List.sublist_cons_self _ _).trans (List.sublist_cons_self _ _)))) | exact H.drop ((List.sublist_cons_self _ _).trans ((List.sublist_cons_self _ _).trans ((List.sublist_cons_self _ _).trans ((List.sublist_cons_self _ _).trans (List.sublist_cons_self _ _)))))) (fun w H => Ev.load1 (agg_run rfl) rfl (by first | exact H.ldL 0 rfl _ rfl | exact H.ldL 1 rfl _ rfl | exact H.ldL 2 rfl _ rfl | exact H.ldL 3 rfl _ rfl | exact H.ldL 4 rfl _ rfl | exact H.ldL 5 rfl _ rfl | exact H.ldL 6 rfl _ rfl | exact H.ldL 7 rfl _ rfl | exact H.ld0 (by assumption) | assumption | exact H.ldS (by assumption) (by assumption))) ?_
    refine OPH.take 2 rfl rfl rfl rfl (by kernel_rfl) (by kernel_rfl) (by kernel_rfl) rfl (by first | exact H | exact H.drop (List.sublist_cons_self _ _) | exact H.drop ((List.sublist_cons_self _ _).trans (List.sublist_cons_self _ _)) | exact H.drop ((List.sublist_cons_self _ _).trans ((List.sublist_cons_self _ _).trans (List.sublist_cons_self _ _))) | exact H.drop ((List.sublist_cons_self _ _).trans ((List.sublist_cons_self _ _).trans ((List.sublist_cons_self _ _).trans (List.sublist_cons_self _ _)))) | exact H.drop ((List.sublist_cons_self _ _).trans ((List.sublist_cons_self _ _).trans ((List.sublist_cons_self _ _).trans ((List.sublist_cons_self _ _).trans (List.sublist_cons_self _ _)))))) (fun w H => Ev.fieldAddr (fld_run rfl) rfl) ?_
    refine OPH.take 3 rfl rfl rfl rfl (by kernel_rfl) (by kernel_rfl) (by kernel_rfl) rfl (by first | exact H | exact H.drop (List.sublist_cons_self _ _) | exact H.drop ((List.sublist_cons_self _ _).trans (List.sublist_cons_self _ _)) | exact H.drop ((List.sublist_cons_self _ _).trans ((List.sublist_cons_self _ _).trans (List.sublist_cons_self _ _))) | exact H.drop ((List.sublist_cons_self _ _).trans ((List.sublist_cons_self _ _).trans ((List.sublist_cons_self _ _).trans (List.sublist_cons_self _ _)))) | exact H.drop ((List.sublist_cons_self _ _).trans ((List.sublist_cons_self _ _).trans ((List.sublist_cons_self _ _).trans ((List.sublist_cons_self _ _).trans (List.sublist_cons_self _ _)))))) (fun w H => Ev.load1 (agg_run rfl) rfl (by first | exact H.ldL 0 rfl _ rfl | exact H.ldL 1 rfl _ rfl | exact H.ldL 2 rfl _ rfl | exact H.ldL 3 rfl _ rfl | exact H.ldL 4 rfl _ rfl | exact H.ldL 5 rfl _ rfl | exact H.ldL 6 rfl _ rfl | exact H.ldL 7 rfl _ rfl | exact H.ld0 (by assumption) | assumption | exact H.ldS (by assumption) (by assumption))) ?_
    refine OPH.take 5 rfl rfl rfl rfl (by kernel_rfl) (by kernel_rfl) (by kernel_rfl) rfl (by first | exact H | exact H.drop (List.sublist_cons_self _ _) | exact H.drop ((List.sublist_cons_self _ _).trans (List.sublist_cons_self _ _)) | exact H.drop ((List.sublist_cons_self _ _).trans ((List.sublist_cons_self _ _).trans (List.sublist_cons_self _ _))) | exact H.drop ((List.sublist_cons_self _ _).trans ((List.sublist_cons_self _ _).trans ((List.sublist_cons_self _ _).trans (List.sublist_cons_self _ _)))) | exact H.drop ((List.sublist_cons_self _ _).trans ((List.sublist_cons_self _ _).trans ((List.sublist_cons_self _ _).trans ((List.sublist_cons_self _ _).trans (List.sublist_cons_self _ _)))))) (fun w H => Ev.fieldAddr (fld_run rfl) rfl) ?_
    refine OPH.take 6 rfl rfl rfl rfl (by kernel_rfl) (by kernel_rfl) (by kernel_rfl) rfl (by first | exact H | exact H.drop (List.sublist_cons_self _ _) | exact H.drop ((List.sublist_cons_self _ _).trans (List.sublist_cons_self _ _)) | exact H.drop ((List.sublist_cons_self _ _).trans ((List.sublist_cons_self _ _).trans (List.sublist_cons_self _ _))) | exact H.drop ((List.sublist_cons_self _ _).trans ((List.sublist_cons_self _ _).trans ((List.sublist_cons_self _ _).trans (List.sublist_cons_self _ _)))) | exact H.drop ((List.sublist_cons_self _ _).trans ((List.sublist_cons_self _ _).trans ((List.sublist_cons_self _ _).trans ((List.sublist_cons_self _ _).trans (List.sublist_cons_self _ _)))))) (fun w H => Ev.load1 (agg_run rfl) rfl (by first | exact H.ldL 0 rfl _ rfl | exact H.ldL 1 rfl _ rfl | exact H.ldL 2 rfl _ rfl | exact H.ldL 3 rfl _ rfl | exact H.ldL 4 rfl _ rfl | exact H.ldL 5 rfl _ rfl | exact H.ldL 6 rfl _ rfl | exact H.ldL 7 rfl _ rfl | exact H.ld0 (by assumption) | assumption | exact H.ldS (by assumption) (by assumption))) ?_
    refine OPH.take 7 rfl rfl rfl rfl (by kernel_rfl) (by kernel_rfl) (by kernel_rfl) rfl (by first | exact H | exact H.drop (List.sublist_cons_self _ _) | exact H.drop ((List.sublist_cons_self _ _).trans (List.sublist_cons_self _ _)) | exact H.drop ((List.sublist_cons_self _ _).trans ((List.sublist_cons_self _ _).trans (List.sublist_cons_self _ _))) | exact H.drop ((List.sublist_cons_self _ _).trans ((List.sublist_cons_self _ _).trans ((List.sublist_cons_self _ _).trans (List.sublist_cons_self _ _)))) | exact H.drop ((List.sublist_cons_self _ _).trans ((List.sublist_cons_self _ _).trans ((List.sublist_cons_self _ _).trans ((List.sublist_cons_self _ _).trans (List.sublist_cons_self _ _)))))) (fun w H => Ev.fieldAddr (fld_run rfl) rfl) ?_
    refine OPH.take 8 rfl rfl rfl rfl (by kernel_rfl) (by kernel_rfl) (by kernel_rfl) rfl (by first | exact H | exact H.drop (List.sublist_cons_self _ _) | exact H.drop ((List.sublist_cons_self _ _).trans (List.sublist_cons_self _ _)) | exact H.drop ((List.sublist_cons_self _ _).trans ((List.sublist_cons_self _ _).trans (List.sublist_cons_self _ _))) | exact H.drop ((List.sublist_cons_self _ _).trans ((List.sublist_cons_self _ _).trans ((List.sublist_cons_self _ _).trans (List.sublist_cons_self _ _)))) | exact H.drop ((List.sublist_cons_self _ _).trans ((List.sublist_cons_self _ _).trans ((List.sublist_cons_self _ _).trans ((List.sublist_cons_self _ _).trans (List.sublist_cons_self _ _)))))) (fun w H => Ev.load1 (agg_run rfl) rfl (by first | exact H.ldL 0 rfl _ rfl | exact H.ldL 1 rfl _ rfl | exact H.ldL 2 rfl _ rfl | exact H.ldL 3 rfl _ rfl | exact H.ldL 4 rfl _ rfl | exact H.ldL 5 rfl _ rfl | exact H.ldL 6 rfl _ rfl | exact H.ldL 7 rfl _ rfl | exact H.ld0 (by assumption) | assumption | exact H.ldS (by assumption) (by assumption))) ?_
    refine OPH.take 10 rfl rfl rfl rfl (by kernel_rfl) (by kernel_rfl) (by kernel_rfl) rfl (by first | exact H | exact H.drop (List.sublist_cons_self _ _) | exact H.drop ((List.sublist_cons_self _ _).trans (List.sublist_cons_self _ _)) | exact H.drop ((List.sublist_cons_self _ _).trans ((List.sublist_cons_self _ _).trans (List.sublist_cons_self _ _))) | exact H.drop ((List.sublist_cons_self _ _).trans ((List.sublist_cons_self _ _).trans ((List.sublist_cons_self _ _).trans (List.sublist_cons_self _ _)))) | exact H.drop ((List.sublist_cons_self _ _).trans ((List.sublist_cons_self _ _).trans ((List.sublist_cons_self _ _).trans ((List.sublist_cons_self _ _).trans (List.sublist_cons_self _ _)))))) (fun w H => (by first | exact Ev.loadO 0 H rfl (agg_run rfl) (size_run rfl) (by first | assumption | rfl) rfl | exact Ev.loadO 1 H rfl (agg_run rfl) (size_run rfl) (by first | assumption | rfl) rfl | exact Ev.loadO 2 H rfl (agg_run rfl) (size_run rfl) (by first | assumption | rfl) rfl | exact Ev.loadO 3 H rfl (agg_run rfl) (size_run rfl) (by first | assumption | rfl) rfl | exact Ev.loadO 4 H rfl (agg_run rfl) (size_run rfl) (by first | assumption | rfl) rfl | exact Ev.loadO 5 H rfl (agg_run rfl) (size_run rfl) (by first | assumption | rfl) rfl | exact Ev.loadO 6 H rfl (agg_run rfl) (size_run rfl) (by first | assumption | rfl) rfl | (change Ev _ _ _ _ (Op.load 56 (Operand.tmp 2)) _; fail))) ?_
    refine OPH.take 11 rfl rfl rfl rfl (by kernel_rfl) (by kernel_rfl) (by kernel_rfl) rfl (by first | exact H | exact H.drop (List.sublist_cons_self _ _) | exact H.drop ((List.sublist_cons_self _ _).trans (List.sublist_cons_self _ _)) | exact H.drop ((List.sublist_cons_self _ _).trans ((List.sublist_cons_self _ _).trans (List.sublist_cons_self _ _))) | exact H.drop ((List.sublist_cons_self _ _).trans ((List.sublist_cons_self _ _).trans ((List.sublist_cons_self _ _).trans (List.sublist_cons_self _ _)))) | exact H.drop ((List.sublist_cons_self _ _).trans ((List.sublist_cons_self _ _).trans ((List.sublist_cons_self _ _).trans ((List.sublist_cons_self _ _).trans (List.sublist_cons_self _ _)))))) (fun w H => (by first | exact Ev.loadO 0 H rfl (agg_run rfl) (size_run rfl) (by first | assumption | rfl) rfl | exact Ev.loadO 1 H rfl (agg_run rfl) (size_run rfl) (by first | assumption | rfl) rfl | exact Ev.loadO 2 H rfl (agg_run rfl) (size_run rfl) (by first | assumption | rfl) rfl | exact Ev.loadO 3 H rfl (agg_run rfl) (size_run rfl) (by first | assumption | rfl) rfl | exact Ev.loadO 4 H rfl (agg_run rfl) (size_run rfl) (by first | assumption | rfl) rfl | exact Ev.loadO 5 H rfl (agg_run rfl) (size_run rfl) (by first | assumption | rfl) rfl | exact Ev.loadO 6 H rfl (agg_run rfl) (size_run rfl) (by first | assumption | rfl) rfl | (change Ev _ _ _ _ (Op.load 56 (Operand.tmp 3)) _; fail))) ?_
    refine OPH.all [4] (by kernel_rfl) (by simp) rfl ?_
    intro i hi; simp only [List.mem_cons, List.not_mem_nil, or_false] at hi
    rcases hi with rfl
    · refine ⟨_, rfl, ?_⟩
      refine OPS.call (d := some 9) rfl rfl rfl (EvC.func (fun_run rfl)) (cmpCompare x.d y.d w) ?_
      rintro _ w ⟨rfl, hb'⟩
      refine ⟨_, rfl, ?_⟩
      replace H := H.toBelow hb'; clear hb'
      refine OPS.nil ?_
      refine ⟨(by first | exact H | exact H.drop (List.sublist_cons_self _ _) | exact H.drop ((List.sublist_cons_self _ _).trans (List.sublist_cons_self _ _)) | exact H.drop ((List.sublist_cons_self _ _).trans ((List.sublist_cons_self _ _).trans (List.sublist_cons_self _ _))) | exact H.drop ((List.sublist_cons_self _ _).trans ((List.sublist_cons_self _ _).trans ((List.sublist_cons_self _ _).trans (List.sublist_cons_self _ _)))) | exact H.drop ((List.sublist_cons_self _ _).trans ((List.sublist_cons_self _ _).trans ((List.sublist_cons_self _ _).trans ((List.sublist_cons_self _ _).trans (List.sublist_cons_self _ _)))))), ?_⟩
      refine OPH.all [9] (by kernel_rfl) (by simp) rfl ?_
      intro i hi; simp only [List.mem_cons, List.not_mem_nil, or_false] at hi
      rcases hi with rfl
      · refine ⟨_, rfl, ?_⟩
        refine OPS.call (d := some 14) rfl rfl rfl (EvC.func (fun_run rfl)) (cmpCompare x.s y.s w) ?_
        rintro _ w ⟨rfl, hb'⟩
        refine ⟨_, rfl, ?_⟩
        replace H := H.toBelow hb'; clear hb'
        refine OPS.nil ?_
        refine ⟨(by first | exact H | exact H.drop (List.sublist_cons_self _ _) | exact H.drop ((List.sublist_cons_self _ _).trans (List.sublist_cons_self _ _)) | exact H.drop ((List.sublist_cons_self _ _).trans ((List.sublist_cons_self _ _).trans (List.sublist_cons_self _ _))) | exact H.drop ((List.sublist_cons_self _ _).trans ((List.sublist_cons_self _ _).trans ((List.sublist_cons_self _ _).trans (List.sublist_cons_self _ _)))) | exact H.drop ((List.sublist_cons_self _ _).trans ((List.sublist_cons_self _ _).trans ((List.sublist_cons_self _ _).trans ((List.sublist_cons_self _ _).trans (List.sublist_cons_self _ _)))))), ?_⟩
        refine OPH.all [12] (by kernel_rfl) (by simp) rfl ?_
        intro i hi; simp only [List.mem_cons, List.not_mem_nil, or_false] at hi
        rcases hi with rfl
        · refine ⟨_, rfl, ?_⟩
          refine OPS.call (d := some 17) rfl rfl rfl (EvC.func (fun_run rfl)) (compareE x y w) ?_
          rintro _ w ⟨rfl, hb'⟩
          refine ⟨_, rfl, ?_⟩
          replace H := H.toBelow hb'; clear hb'
          refine OPS.nil ?_
          refine ⟨(by first | exact H | exact H.drop (List.sublist_cons_self _ _) | exact H.drop ((List.sublist_cons_self _ _).trans (List.sublist_cons_self _ _)) | exact H.drop ((List.sublist_cons_self _ _).trans ((List.sublist_cons_self _ _).trans (List.sublist_cons_self _ _))) | exact H.drop ((List.sublist_cons_self _ _).trans ((List.sublist_cons_self _ _).trans ((List.sublist_cons_self _ _).trans (List.sublist_cons_self _ _)))) | exact H.drop ((List.sublist_cons_self _ _).trans ((List.sublist_cons_self _ _).trans ((List.sublist_cons_self _ _).trans ((List.sublist_cons_self _ _).trans (List.sublist_cons_self _ _)))))), ?_⟩
          refine OPH.all [13] (by kernel_rfl) (by simp) rfl ?_
          intro i hi; simp only [List.mem_cons, List.not_mem_nil, or_false] at hi
          rcases hi with rfl
          · refine ⟨_, rfl, ?_⟩
            refine OPS.buildSlice rfl rfl rfl rfl (bsl_22_3_0_1_2 rfl rfl rfl) H ?_
            clear H; intro g18 w E
            have H := E.drop (List.sublist_cons_self _ _)
            refine OPS.nil ?_
            refine ⟨(by first | exact H | exact H.drop (List.sublist_cons_self _ _) | exact H.drop ((List.sublist_cons_self _ _).trans (List.sublist_cons_self _ _)) | exact H.drop ((List.sublist_cons_self _ _).trans ((List.sublist_cons_self _ _).trans (List.sublist_cons_self _ _))) | exact H.drop ((List.sublist_cons_self _ _).trans ((List.sublist_cons_self _ _).trans ((List.sublist_cons_self _ _).trans (List.sublist_cons_self _ _)))) | exact H.drop ((List.sublist_cons_self _ _).trans ((List.sublist_cons_self _ _).trans ((List.sublist_cons_self _ _).trans ((List.sublist_cons_self _ _).trans (List.sublist_cons_self _ _)))))), ?_⟩
            refine OPH.all [14] (by kernel_rfl) (by simp) rfl ?_
            intro i hi; simp only [List.mem_cons, List.not_mem_nil, or_false] at hi
            rcases hi with rfl
            · refine ⟨_, rfl, ?_⟩
              refine OPS.call (d := some 19) rfl rfl rfl (EvC.func (fun_run rfl)) (cmpOr (some ⟨g18, 0, none⟩) [cmpI x.d y.d, cmpI x.s y.s, cmpE x y] 3 w (OnesAt.own (l := [cmpI x.d y.d, cmpI x.s y.s, cmpE x y]) E 0 rfl (post := []) rfl) (by simp)) ?_
              rintro _ w ⟨rfl, hb'⟩
              refine ⟨_, rfl, ?_⟩
              replace H := H.toBelow hb'; clear hb'
              refine OPS.nil ?_
              refine ⟨(by first | exact H | exact H.drop (List.sublist_cons_self _ _) | exact H.drop ((List.sublist_cons_self _ _).trans (List.sublist_cons_self _ _)) | exact H.drop ((List.sublist_cons_self _ _).trans ((List.sublist_cons_self _ _).trans (List.sublist_cons_self _ _))) | exact H.drop ((List.sublist_cons_self _ _).trans ((List.sublist_cons_self _ _).trans ((List.sublist_cons_self _ _).trans (List.sublist_cons_self _ _)))) | exact H.drop ((List.sublist_cons_self _ _).trans ((List.sublist_cons_self _ _).trans ((List.sublist_cons_self _ _).trans ((List.sublist_cons_self _ _).trans (List.sublist_cons_self _ _)))))), ?_⟩
              refine OPH.take 15 rfl rfl rfl rfl (by kernel_rfl) (by kernel_rfl) (by kernel_rfl) rfl (by first | exact H | exact H.drop (List.sublist_cons_self _ _) | exact H.drop ((List.sublist_cons_self _ _).trans (List.sublist_cons_self _ _)) | exact H.drop ((List.sublist_cons_self _ _).trans ((List.sublist_cons_self _ _).trans (List.sublist_cons_self _ _))) | exact H.drop ((List.sublist_cons_self _ _).trans ((List.sublist_cons_self _ _).trans ((List.sublist_cons_self _ _).trans (List.sublist_cons_self _ _)))) | exact H.drop ((List.sublist_cons_self _ _).trans ((List.sublist_cons_self _ _).trans ((List.sublist_cons_self _ _).trans ((List.sublist_cons_self _ _).trans (List.sublist_cons_self _ _)))))) (fun w H => Ev.asI rfl) ?_
              refine OPH.done (by kernel_rfl) ?_
              exact ⟨(by repeat (first | exact Agree.refl _ _ | exact Agree.mix _ _ _ | refine Agree.upd rfl ?_ | refine Agree.mix2 rfl ?_)), rfl, H⟩
  clear H
  rintro u w ⟨h4, H⟩
  refine WP.know (t := 4) h4 ?_
  refine WP.ret ⟨_, rfl, ?_⟩
  exact ⟨rfl, H.below⟩
/-- what the kit's sort asks of the world behind a comparison -/
theorem Bel_grow {w w' : World} (h : Bel w.heap.size w w') : ∃ q os, w' = Go.Sort.grow (w.drewN q) os := by
  refine ⟨w'.drawn - w.drawn, w'.heap.extract w.heap.size w'.heap.size, ?_⟩
  have hh : w'.heap = w.heap ++ w'.heap.extract w.heap.size w'.heap.size := by
    apply Array.ext
    · have := h.size; simp; omega
    · intro i h1 h2
      by_cases hi : i < w.heap.size
      · have := h.block i hi
        rw [Array.getElem?_eq_getElem h1, Array.getElem?_eq_getElem hi] at this
        rw [Array.getElem_append_left hi]
        exact Option.some.inj this
      · rw [Array.getElem_append_right (by omega), Array.getElem_extract]
        congr 1; omega
  have hd := h.drawn
  cases w'; cases w
  have h1 := h.os; have h2 := h.tape; have h3 := h.output
  simp only at h1 h2 h3 hh hd
  subst h1 h2 h3
  simp only [Go.Sort.grow, Go.World.drewN]
  rw [← hh]
  congr 1
  omega
end Go.Proofs.Ytchjbjplddhknaa.D

/-
  The contract of slices.SortFunc at this seat, as the kit's command has written it in plain words.
-/
set_option linter.all false
namespace Go.Proofs
open Go.Shelf
def Try.sortEv_ren : Go.Shelf.Ren := ⟨fun | 6 => 25 | 15 => 43 | 14 => 42 | 28 => 62 | 29 => 63 | 20 => 54 | 21 => 55 | 22 => 56 | 23 => 57 | 24 => 58 | 25 => 59 | 26 => 60 | 27 => 61 | 46 => 64 | 47 => 65 | 48 => 66 | 49 => 67 | 50 => 68 | 57 => 69 | n => n, fun | 22 => 25 | 24 => 56 | 25 => 81 | 3 => 3 | 39 => 57 | 0 => 0 | 53 => 117 | 55 => 26 | 4 => 4 | 46 => 110 | 45 => 109 | 50 => 114 | 5 => 5 | 9 => 9 | 66 => 119 | 70 => 123 | 76 => 125 | 77 => 126 | n => n, fun | n => n⟩
theorem Try.sortEv : Go.Proofs.SlLaysF0.n6 Try.prog Try.sortEv_ren := {
  mixed := by kernel_rfl
  f6 := ⟨Try.f25.name, by decide, Try.func25.trans (congrArg some (by kernel_rfl))⟩
  f14 := ⟨Try.f42.name, by decide, Try.func42.trans (congrArg some (by kernel_rfl))⟩
  f15 := Try.func43.trans (congrArg some (by kernel_rfl))
  f20 := ⟨Try.f54.name, by decide, Try.func54.trans (congrArg some (by kernel_rfl))⟩
  f21 := ⟨Try.f55.name, by decide, Try.func55.trans (congrArg some (by kernel_rfl))⟩
  f22 := ⟨Try.f56.name, by decide, Try.func56.trans (congrArg some (by kernel_rfl))⟩
  f23 := ⟨Try.f57.name, by decide, Try.func57.trans (congrArg some (by kernel_rfl))⟩
  f24 := ⟨Try.f58.name, by decide, Try.func58.trans (congrArg some (by kernel_rfl))⟩
  f25 := ⟨Try.f59.name, by decide, Try.func59.trans (congrArg some (by kernel_rfl))⟩
  f26 := ⟨Try.f60.name, by decide, Try.func60.trans (congrArg some (by kernel_rfl))⟩
  f27 := ⟨Try.f61.name, by decide, Try.func61.trans (congrArg some (by kernel_rfl))⟩
  f28 := Try.func62.trans (congrArg some (by kernel_rfl))
  f29 := Try.func63.trans (congrArg some (by kernel_rfl))
  f46 := ⟨Try.f64.name, by decide, Try.func64.trans (congrArg some (by kernel_rfl))⟩
  f47 := Try.func65.trans (congrArg some (by kernel_rfl))
  f48 := Try.func66.trans (congrArg some (by kernel_rfl))
  f49 := ⟨Try.f67.name, by decide, Try.func67.trans (congrArg some (by kernel_rfl))⟩
  f50 := ⟨Try.f68.name, by decide, Try.func68.trans (congrArg some (by kernel_rfl))⟩
  f57 := ⟨Try.f69.name, by decide, Try.func69.trans (congrArg some (by kernel_rfl))⟩
  t0 := Try.underlying0
  a0 := Try.isAgg0
  z0 := Try.sizeOf0
  v0 := Try.zeroValue0
  t3 := Try.underlying3
  a3 := Try.isAgg3
  z3 := Try.sizeOf3
  v3 := Try.zeroValue3
  t4 := Try.underlying4
  a4 := Try.isAgg4
  z4 := Try.sizeOf4
  v4 := Try.zeroValue4
  t5 := Try.underlying5
  a5 := Try.isAgg5
  z5 := Try.sizeOf5
  v5 := Try.zeroValue5
  t9 := Try.underlying9
  a9 := Try.isAgg9
  z9 := Try.sizeOf9
  v9 := Try.zeroValue9
  t22 := Try.underlying25
  a22 := Try.isAgg25
  z22 := Try.sizeOf25
  v22 := Try.zeroValue25
  t25 := Try.underlying81
  a25 := Try.isAgg81
  z25 := Try.sizeOf81
  v25 := Try.zeroValue81
  t39 := Try.underlying57
  a39 := Try.isAgg57
  z39 := Try.sizeOf57
  v39 := Try.zeroValue57
  t45 := Try.underlying109
  a45 := Try.isAgg109
  z45 := Try.sizeOf109
  v45 := Try.zeroValue109
  t46 := Try.underlying110
  a46 := Try.isAgg110
  z46 := Try.sizeOf110
  v46 := Try.zeroValue110
  t50 := Try.underlying114
  a50 := Try.isAgg114
  z50 := Try.sizeOf114
  v50 := Try.zeroValue114
  t53 := Try.underlying117
  a53 := Try.isAgg117
  z53 := Try.sizeOf117
  v53 := Try.zeroValue117
  t55 := Try.underlying26
  a55 := Try.isAgg26
  z55 := Try.sizeOf26
  v55 := Try.zeroValue26
  t66 := Try.underlying119
  a66 := Try.isAgg119
  z66 := Try.sizeOf119
  v66 := Try.zeroValue119
  t70 := Try.underlying123
  a70 := Try.isAgg123
  z70 := Try.sizeOf123
  v70 := Try.zeroValue123
  t76 := Try.underlying125
  a76 := Try.isAgg125
  z76 := Try.sizeOf125
  v76 := Try.zeroValue125
  t77 := Try.underlying126
  a77 := Try.isAgg126
  z77 := Try.sizeOf126
  v77 := Try.zeroValue126 }
end Go.Proofs

/-
  slices.SortFunc at events, as a call of the walk.
-/
set_option linter.all false
namespace Go.Proofs.Ytchjbjplddhknaa
open Go Go.RowKit
open Go.Sort

theorem flat_eq (d : Array Evt) : (flatK evC 9 d).toList = d.toList.flatMap evC := by
  apply List.ext_getElem?
  intro t
  by_cases ht : t < d.size * 9
  · have h1 := get_flatK evC 9 d t ht
    have hq : t / 9 < d.toList.length := by simp; omega
    have h2 := Go.W.rows_get (enc := evC) (sz := 9) (fun _ => rfl) d.toList (t / 9) (t % 9) hq (Nat.mod_lt _ (by omega))
    rw [show t / 9 * 9 + t % 9 = t by omega] at h2
    rw [h2, Array.getElem?_toList, Array.getElem?_eq_getElem (by simpa using ht)]
    rw [getElem!_pos (flatK evC 9 d) t (by simpa using ht)] at h1
    rw [h1, getElem!_pos d (t / 9) (by simpa using hq)]
    have h3 : t % 9 < (evC d[t / 9]).length := by rw [evC_len]; exact Nat.mod_lt _ (by omega)
    rw [getElem!_pos (evC d[t / 9]) (t % 9) h3]
    simp [List.getElem?_eq_getElem h3]
  · rw [List.getElem?_eq_none (by simp; omega), List.getElem?_eq_none (by rw [Go.W.rows_length (sz := 9) (fun _ => rfl)]; simp; omega)]
theorem putCells_pre (F : Array Value) (A rest : List Value) (h : F.size = A.length) : putCells id 0 F (A ++ rest).toArray = (F.toList ++ rest).toArray := by
  apply Array.ext
  · simp [putCells, h]
  · intro k h1 h2
    by_cases hk : k < F.size
    · have e1 : (F.toList ++ rest)[k]'(by simpa using h2) = F[k] := by rw [List.getElem_append_left (by simpa using hk)]; simp
      simp only [putCells, Array.getElem_mapIdx, Nat.zero_add, Nat.zero_le, true_and, Nat.sub_zero, hk, if_true, id, List.getElem_toArray]
      rw [e1, getElem!_pos F k hk]
    · have e1 : (F.toList ++ rest)[k]'(by simpa using h2) = (A ++ rest)[k]'(by simpa [putCells] using h1) := by
        rw [List.getElem_append_right (by simpa using hk), List.getElem_append_right (by omega)]
        simp [h]
      simp only [putCells, Array.getElem_mapIdx, Nat.zero_add, Nat.zero_le, true_and, hk, if_false, List.getElem_toArray]
      exact e1.symm
theorem sortE (g : Nat) (cf : Evt → Evt → Int) (hO : SWO (Go.Proofs.ltOf cf)) (hT : ∀ x y, (Go.Proofs.ltOf cf) x y = false → (Go.Proofs.ltOf cf) y x = false → x = y) (hg : ∀ args w, (callFunc g args).run Try.prog w = .ok (.enter g args) w)
    (hC : ∀ x y w, Calls Try.prog g #[.agg (evC x).toArray, .agg (evC y).toArray] w fun e w' => e = .returned (.int .i64 (cf x y)) ∧ Go.WD.Bel w.heap.size w w') (es : List Evt) (rest : List Value) (blk cap : Nat) (w : World)
    (hb : w.heap[blk]? = some (.cells (es.flatMap evC ++ rest).toArray 56 (0, 0))) (hl : es.length ≤ 1000) :
    Calls Try.prog 25 #[.slice (some ⟨blk, 0, none⟩) es.length cap, .func (.func g) #[] #[]] w fun e w' => e = .returned (.tuple #[]) ∧ Go.W.SH w [blk] w' [⟨blk, 56, (es.mergeSort fun x y => !(Go.Proofs.ltOf cf) y x).flatMap evC ++ rest⟩] := by
  have hblk : blk < w.heap.size := (Array.getElem?_eq_some_iff.1 hb).1
  have hH : HoldsK evC 9 w blk 0 es.toArray := by
    intro j hj
    have hj' : j < (es.flatMap evC).length := by
      rw [Go.W.rows_length (sz := 9) (fun _ => rfl)]
      simpa using hj
    have hv : (flatK evC 9 es.toArray)[j]! = (es.flatMap evC)[j] := by
      have h1 := flat_eq es.toArray
      rw [getElem!_pos (flatK evC 9 es.toArray) j hj, ← Array.getElem_toList]
      simp only [h1]
    refine ⟨?_, ?_⟩
    · unfold World.cell?
      simp [hb, hv, List.getElem?_append_left hj', List.getElem?_eq_getElem hj']
    · unfold World.frozen?
      simp [hb]
  have hcmp : Go.Proofs.CmpLays Try.prog g #[] evC 9 cf blk 0 es.toArray.size w := fun m os dk _ x y =>
    (hC x y _).mono fun e w' ⟨he, hw⟩ => ⟨he, D.Bel_grow hw⟩
  have hS := Go.Proofs.AnyQ.slices_SortFunc Try.sortEv 9 Try.isAgg56 Try.sizeOf56 evC (fun _ => rfl) evC_one cf hO g #[] blk 0 cap es.toArray w hg hcmp hH hblk (by simp; omega)
  refine hS.mono ?_
  rintro e w' ⟨he, d', n, os, hp, hs, rfl⟩
  refine ⟨he, ?_⟩
  have hd : d'.toList = es.mergeSort fun x y => !(Go.Proofs.ltOf cf) y x := sorted_unique_holds hO hT es.toArray d' hp hs
  have hsz : d'.size = es.length := by simpa using hp.1
  have hF : (flatK evC 9 d').size = (es.flatMap evC).length := by
    rw [size_flatK, hsz, Go.W.rows_length (sz := 9) (fun _ => rfl)]
  have hcell : putCells id 0 (flatK evC 9 d') (es.flatMap evC ++ rest).toArray = ((es.mergeSort fun x y => !(Go.Proofs.ltOf cf) y x).flatMap evC ++ rest).toArray := by
    rw [← hd, ← flat_eq d']
    exact putCells_pre _ _ _ hF
  have hown : (Go.Proofs.sortWorldK evC 9 w blk 0 n d' os).heap[blk]? = some (.cells ((es.mergeSort fun x y => !(Go.Proofs.ltOf cf) y x).flatMap evC ++ rest).toArray 56 (0, 0)) := by
    show ((w.heap.modify blk (onCells (putCells id 0 (flatK evC 9 d')))) ++ os)[blk]? = _
    rw [Array.getElem?_append_left (by simpa using hblk), Array.getElem?_modify, if_pos rfl, hb]
    show some (Obj.cells (putCells id 0 (flatK evC 9 d') _) 56 (0, 0)) = _
    rw [hcell]
  refine ⟨rfl, rfl, rfl, ?_, ?_, ?_, by simp, by simp⟩
  · show w.heap.size ≤ ((w.heap.modify blk (onCells (putCells id 0 (flatK evC 9 d')))) ++ os).size
    simp
  · intro k hk hkS
    show ((w.heap.modify blk (onCells (putCells id 0 (flatK evC 9 d')))) ++ os)[k]? = _
    have hne : blk ≠ k := fun he => hkS (by simp [he])
    rw [Array.getElem?_append_left (by simpa using hk), Array.getElem?_modify, if_neg hne]
  · intro b hb
    rw [List.mem_singleton] at hb
    subst hb
    exact hown
end Go.Proofs.Ytchjbjplddhknaa

/-
  Short forms of the rules that stand most often in a walk.
-/
set_option linter.all false
namespace Go.Proofs.Ytchjbjplddhknaa.Y
open Go Go.W Go.RowKit
theorem ag {M : List Nat} {e' e : Env} (h : Agree M e' e := by repeat (first | exact Agree.refl _ _ | exact Agree.mix _ _ _ | refine Agree.upd rfl ?_ | refine Agree.mix2 rfl ?_)) : Agree M e' e := h
section
variable {w0 w : World} {S : List Nat} {L : List Blk} {a b c x : Blk}
theorem d1 (H : SH w0 S w (a :: L)) : SH w0 S w L := H.drop (List.sublist_cons_self _ _)
theorem d2 (H : SH w0 S w (a :: b :: L)) : SH w0 S w L := d1 (d1 H)
theorem d3 (H : SH w0 S w (a :: b :: c :: L)) : SH w0 S w L := d1 (d2 H)
theorem d4 (H : SH w0 S w (a :: b :: c :: x :: L)) : SH w0 S w L := d1 (d3 H)
end
section
variable {N : Nat} {md : Md} {ops : Array Oper} {K : Env → World → Prop} {e : Env} {w w0 : World} {S : List Nat} {L : List Blk} {rest : List Oper} {d : Nat} {ty t : TypeId} {pos : String} {aft : Array Edge} {x1 y1 : Operand}
theorem v {op : Op} {v : Value} (hE : Ev Try.prog e w ty op v) (h : OPS Try.prog N md ops K rest (upd e d v) w) (hN : Nat.blt d N = true := by rfl) : OPS Try.prog N md ops K ({ dst := some d, op := op, type := ty, pos := pos, after := aft, guard := none } :: rest) e w := OPS.val rfl rfl hN hE h
theorem g {op : Op} {v : Value} {j dj : Nat} {want b : Bool} (hj : ops[j]?.bind (·.dst) = some dj) (hb : e dj = .bool b) (hE : b = want → Ev Try.prog e w ty op v) (h : OPS Try.prog N md ops K rest (upd e d (gv b want v)) w) (hN : Nat.blt d N = true := by rfl) : OPS Try.prog N md ops K ({ dst := some d, op := op, type := ty, pos := pos, after := aft, guard := some (j, want) } :: rest) e w := OPS.gval rfl hj hb rfl hN hE h
theorem m {k : IntKind} {n : Int} (hx : ev e x1 = .int k n) : Ev Try.prog e w ty (.move x1) (.int k n) := Ev.mvI hx
theorem f {s k off b o : Nat} (hp : fldT s k = some off) (ha : ev e x1 = .pointer (some ⟨b, o, none⟩)) : Ev Try.prog e w ty (.fieldAddr s x1 k) (.pointer (some ⟨b, o + off, none⟩)) := Ev.fieldAddr (fld_run hp) ha
theorem l {g k : Nat} {T : TypeId} {cs : List Value} {v : Value} (H : SH w0 S w L) (i : Nat) (ha : ev e x1 = .pointer (some ⟨g, k, none⟩)) (hi : L[i]? = some ⟨g, T, cs⟩) (hk : cs[k]? = some v) (hA : aggT t = some false := by rfl) : Ev Try.prog e w ty (.load t x1) v := Ev.load1 (agg_run hA) ha (H.ldL i hi k hk)
theorem c {a : Addr} {v : Value} (hc : w.cell? a = some v) (ha : ev e x1 = .pointer (some a)) (hA : aggT t = some false := by rfl) : Ev Try.prog e w ty (.load t x1) v := Ev.load1 (agg_run hA) ha hc
theorem o {g : Nat} {T : TypeId} {cs : List Value} (H : SH w0 S w L) (i : Nat) (ha : ev e x1 = .pointer (some ⟨g, 0, none⟩)) (hi : L[i]? = some ⟨g, T, cs⟩) (hA : aggT t = some true := by rfl) (hl : sizeT t = some cs.length := by rfl) : Ev Try.prog e w ty (.load t x1) (.agg cs.toArray) := Ev.loadO i H hi (agg_run hA) (size_run hl) rfl ha
theorem x {el b o n cap j : Nat} {k : IntKind} {ii : Int} (hu : elT t = some el) (hx : ev e x1 = .slice (some ⟨b, o, none⟩) n cap) (hi : ev e y1 = .int k ii) (hj : ii = (j : Int)) (hlt : j < n := by omega) (hs : sizeT el = some 1 := by rfl) : Ev Try.prog e w ty (.indexAddr t x1 y1) (.pointer (some ⟨b, o + j, none⟩)) := Ev.indexAddr1 (el_run hu) (size_run hs) hx hi hj hlt
theorem X {el sz b o n cap j : Nat} {k : IntKind} {ii : Int} (hu : elT t = some el) (hs : sizeT el = some sz) (hx : ev e x1 = .slice (some ⟨b, o, none⟩) n cap) (hi : ev e y1 = .int k ii) (hj : ii = (j : Int)) (hlt : j < n := by omega) : Ev Try.prog e w ty (.indexAddr t x1 y1) (.pointer (some ⟨b, o + j * sz, none⟩)) := Ev.indexAddr (el_run hu) (size_run hs) hx hi hj hlt
theorem n {el n cap : Nat} {A : Option Addr} (hx : ev e x1 = .slice A n cap) (hu : elT t = some el := by rfl) : Ev Try.prog e w ty (.call { callee := .builtin .len, args := #[x1], argTypes := #[t] }) (.int .i64 n) := Ev.len (el_run hu) hx
theorem p {t' : TypeId} {a b : Int} (hx : ev e x1 = .int .i64 a) (hy : ev e y1 = .int .i64 b) (h : fits (a + b) := by unfold fits; omega) : Ev Try.prog e w ty (.binOp .add t x1 y1 t') (.int .i64 (a + b)) := Ev.add hx hy h
theorem s {t' : TypeId} {a b : Int} (hx : ev e x1 = .int .i64 a) (hy : ev e y1 = .int .i64 b) (h : fits (a - b) := by unfold fits; omega) : Ev Try.prog e w ty (.binOp .sub t x1 y1 t') (.int .i64 (a - b)) := Ev.sub hx hy h
theorem st {vs : List Value} {k g : Nat} {T : TypeId} {cs : List Value} (i : Nat) (H : SH w0 S w L) (hx : ev e x1 = .pointer (some ⟨g, k, none⟩)) (hv : (ev e y1).cells = vs.toArray) (hi : L[i]? = some ⟨g, T, cs⟩)
    (h : ∀ w', SH w0 S w' (L.set i ⟨g, T, putL cs k vs⟩) → OPS Try.prog N .plain ops K rest e w') (hs : sizeT t = some vs.length := by rfl) (h1 : (vs.all (·.oneCell')) = true := by rfl) (hk : k + vs.length ≤ cs.length := by simp) : OPS Try.prog N .plain ops K ({ dst := none, op := .store t x1 y1, type := ty, pos := pos, after := aft, guard := none } :: rest) e w :=
  OPS.store (b := ⟨g, T, cs⟩) i k rfl rfl rfl (size_run hs) hx hv rfl h1 H hi hk h
theorem bx {cs : List Value} (hx : (ev e x1).cells = cs.toArray) (H : SH w0 S w L) (h : ∀ g w', SH w0 S w' (⟨g, t, cs⟩ :: L) → OPS Try.prog N .plain ops K rest (upd e d (.pointer (some ⟨g, 0, none⟩))) w') (hN : Nat.blt d N = true := by rfl) : OPS Try.prog N .plain ops K ({ dst := some d, op := .box t x1, type := ty, pos := pos, after := aft, guard := none } :: rest) e w := OPS.box rfl rfl hN rfl hx H h
theorem z (h : K e w) : OPS Try.prog N .plain ops K [] e w := OPS.nil h
theorem al {z : Value} {cs : List Value} (H : SH w0 S w L) (hz : zeroT t = some z) (hx : z.cells = cs.toArray) (h : ∀ g w', SH w0 S w' (⟨g, t, cs⟩ :: L) → OPS Try.prog N .plain ops K rest (upd e d (.pointer (some ⟨g, 0, none⟩))) w') (hN : Nat.blt d N = true := by rfl) : OPS Try.prog N .plain ops K ({ dst := some d, op := .alloc t, type := ty, pos := pos, after := aft, guard := none } :: rest) e w :=
  OPS.alloc rfl rfl hN rfl (zero_run hz) hx H h
theorem a {k : IntKind} {n : Int} (hx : ev e x1 = .int k n) (h : OPS Try.prog N md ops K rest (upd e d (.int k n)) w) (hN : Nat.blt d N = true := by rfl) : OPS Try.prog N md ops K ({ dst := some d, op := .move x1, type := ty, pos := pos, after := aft, guard := none } :: rest) e w := v (m hx) h hN
theorem b {k : IntKind} {n : Int} (hx : ev e x1 = .int k n) (h : OPS Try.prog N md ops K rest (upd e d (.int k n)) w) (hN : Nat.blt d N = true := by rfl) : OPS Try.prog N md ops K ({ dst := some d, op := .assign x1, type := ty, pos := pos, after := aft, guard := none } :: rest) e w := v (Ev.asI hx) h hN
theorem fa {s k off b o : Nat} (hp : fldT s k = some off) (ha : ev e x1 = .pointer (some ⟨b, o, none⟩)) (h : OPS Try.prog N md ops K rest (upd e d (.pointer (some ⟨b, o + off, none⟩))) w) (hN : Nat.blt d N = true := by rfl) : OPS Try.prog N md ops K ({ dst := some d, op := .fieldAddr s x1 k, type := ty, pos := pos, after := aft, guard := none } :: rest) e w := v (f hp ha) h hN
theorem j {g k : Nat} {T : TypeId} {cs : List Value} {v : Value} (H : SH w0 S w L) (i : Nat) (ha : ev e x1 = .pointer (some ⟨g, k, none⟩)) (hi : L[i]? = some ⟨g, T, cs⟩) (hk : cs[k]? = some v) (h : OPS Try.prog N md ops K rest (upd e d v) w) (hN : Nat.blt d N = true := by rfl) (hA : aggT t = some false := by rfl) : OPS Try.prog N md ops K ({ dst := some d, op := .load t x1, type := ty, pos := pos, after := aft, guard := none } :: rest) e w := Y.v (l H i ha hi hk hA) h hN
theorem y {j dj : Nat} {want b : Bool} (hj : ops[j]?.bind (·.dst) = some dj) (hb : e dj = .bool b) (H : SH w0 S w L) (i : Nat) {g c : Nat} {T : TypeId} {cs : List Value} {v : Value} (ha : b = want → ev e x1 = .pointer (some ⟨g, c, none⟩)) (hi : L[i]? = some ⟨g, T, cs⟩) (hk : cs[c]? = some v) (h : OPS Try.prog N md ops K rest (upd e d (gv b want v)) w) (hN : Nat.blt d N = true := by rfl) (hA : aggT t = some false := by rfl) : OPS Try.prog N md ops K ({ dst := some d, op := .load t x1, type := ty, pos := pos, after := aft, guard := some (j, want) } :: rest) e w := Y.g hj hb (fun hg => Ev.load1 (agg_run hA) (ha hg) (H.ldL i hi c hk)) h hN
theorem mk {el sz bt m : Nat} {n : Int} {k k' : IntKind} {zs : List Value} (H : SH w0 S w L) (hf : SlFact Try.prog t el sz bt zs)
    (h : ∀ g w', SH w0 S w' (⟨g, el, mkL m zs⟩ :: L) → OPS Try.prog N .plain ops K rest (upd e d (.slice (some ⟨g, 0, none⟩) m m)) w') (hN : Nat.blt d N = true := by rfl) (hx : ev e x1 = .int k n := by first | rfl | assumption) (hy : ev e y1 = .int k' n := by first | rfl | assumption) (hn : n = (m : Int) := by rfl) (hb : bt * m ≤ 140737488355328 := by omega) (hm : m ≤ 9223372036854775807 := by omega) : OPS Try.prog N .plain ops K ({ dst := some d, op := .makeSlice t x1 y1, type := ty, pos := pos, after := aft, guard := none } :: rest) e w :=
  OPS.makeSlice rfl rfl hN rfl hf hx hy hn hb hm H h
theorem ss {vs : List Value} {k g n : Nat} {T : TypeId} {cs : List Value} {L' : List Blk} (i : Nat) (H : SH w0 S w L) (hx : ev e x1 = .pointer (some ⟨g, k, none⟩)) (hv : (ev e y1).cells = vs.toArray) (hi : L[i]? = some ⟨g, T, cs⟩)
    (h : ∀ w', SH w0 S w' L' → OPS Try.prog N .plain ops K rest e w') (hs : sizeT t = some n := by rfl) (hn : vs.length = n := by rfl) (hL : L.set i ⟨g, T, putL cs k vs⟩ = L' := by first | (simp only [List.set_cons_zero, List.set_cons_succ, putL, Nat.zero_add] <;> rfl) | rfl) (h1 : (vs.all (·.oneCell')) = true := by rfl) (hk : k + n ≤ cs.length := by simp) : OPS Try.prog N .plain ops K ({ dst := none, op := .store t x1 y1, type := ty, pos := pos, after := aft, guard := none } :: rest) e w :=
  OPS.store (b := ⟨g, T, cs⟩) i k rfl rfl rfl (size_run hs) hx hv hn h1 H hi hk (hL ▸ h)
end
section
variable {N : Nat} {ops : Array Oper} {K : Env → World → Prop} {e : Env} {w w0 : World} {S : List Nat} {L : List Blk} {fuel f : Nat} {listed : Array Bool}
theorem t (i : Nat) {d : Nat} {op : Op} {ty : TypeId} {pos : String} {aft : Array Edge} {v : Value} (H : SH w0 S w L) (hi : ops[i]? = some { dst := some d, op := op, type := ty, pos := pos, after := aft, guard := none }) (hfu : fuel = f + 1) (hE : ∀ w', SH w0 S w' L → Ev Try.prog e w' ty op v)
    (h : OPH Try.prog N ops K w0 S L f (listed.setIfInBounds i true) (upd e d v) w) (hN : Nat.blt d N = true := by rfl) (hs : Region.noSelect ops = true := by kernel_rfl) (hf : Region.free .any ops listed i = true := by kernel_rfl) (hr : (Region.ready .any ops listed).contains i = true := by kernel_rfl) : OPH Try.prog N ops K w0 S L fuel listed e w :=
  OPH.take i hi rfl rfl hN hs hf hr hfu H hE h
def All {α : Type} (p : α → Prop) : List α → Prop
  | [] => True
  | a :: l => p a ∧ All p l
theorem all_mem {α : Type} {p : α → Prop} : ∀ {l : List α}, All p l → ∀ a ∈ l, p a
  | [], _, a, h => by cases h
  | b :: l, h, a, ha => by
    rcases List.mem_cons.1 ha with rfl | ha
    · exact h.1
    · exact all_mem h.2 a ha
theorem A (rs : List Nat) (hfu : fuel = f + 1) (h : All (fun i => ∃ o, ops[i]? = some o ∧ OPS Try.prog N .plain ops (fun e' w' => SH w0 S w' L ∧ OPH Try.prog N ops K w0 S L f (listed.setIfInBounds i true) e' w') [o] e w) rs) (hr : Region.ready .any ops listed = rs := by kernel_rfl) (hne : rs ≠ [] := by simp) : OPH Try.prog N ops K w0 S L fuel listed e w :=
  OPH.all rs hr hne hfu (all_mem h)
theorem dn (h : K e w) (hr : Region.ready .any ops listed = [] := by kernel_rfl) : OPH Try.prog N ops K w0 S L fuel listed e w := OPH.done hr h
theorem A1 (i : Nat) {o : Oper} (hfu : fuel = f + 1) (ho : ops[i]? = some o) (h : OPS Try.prog N .plain ops (fun e' w' => SH w0 S w' L ∧ OPH Try.prog N ops K w0 S L f (listed.setIfInBounds i true) e' w') [o] e w) (hr : Region.ready .any ops listed = [i] := by kernel_rfl) : OPH Try.prog N ops K w0 S L fuel listed e w :=
  A [i] hfu ⟨⟨o, ho, h⟩, trivial⟩ hr
theorem A2 (i i2 : Nat) {o o2 : Oper} (hfu : fuel = f + 1) (ho : ops[i]? = some o) (ho2 : ops[i2]? = some o2) (h : OPS Try.prog N .plain ops (fun e' w' => SH w0 S w' L ∧ OPH Try.prog N ops K w0 S L f (listed.setIfInBounds i true) e' w') [o] e w) (h2 : OPS Try.prog N .plain ops (fun e' w' => SH w0 S w' L ∧ OPH Try.prog N ops K w0 S L f (listed.setIfInBounds i2 true) e' w') [o2] e w) (hr : Region.ready .any ops listed = [i, i2] := by kernel_rfl) : OPH Try.prog N ops K w0 S L fuel listed e w :=
  A [i, i2] hfu ⟨⟨o, ho, h⟩, ⟨o2, ho2, h2⟩, trivial⟩ hr
end
section
variable {N : Nat} {Kn : Env → World → Prop} {Kx : Nat → Env → World → Prop} {Kr : Env → World → Prop} {e : Env} {w : World} {id : Nat}
theorem q {x y : Code} (h : WP Try.prog N x (fun e w => WP Try.prog N y Kn Kx Kr e w) Kx Kr e w) : WP Try.prog N (.seq x y) Kn Kx Kr e w := WP.seq h
theorem r {l : List Oper} (h : OPS Try.prog N .plain l.toArray Kn l e w) : WP Try.prog N (.region id l.toArray false) Kn Kx Kr e w := WP.region h
theorem qr {l : List Oper} {y : Code} (h : OPS Try.prog N .plain l.toArray (fun e w => WP Try.prog N y Kn Kx Kr e w) l e w) : WP Try.prog N (.seq (.region id l.toArray false) y) Kn Kx Kr e w := WP.seq (WP.region h)
theorem k (h : Kn e w) : WP Try.prog N .skip Kn Kx Kr e w := WP.skip h
structure Hold (p : Prop) : Prop where
  out : p
/-- as many steps as go by themselves -/
theorem go {G G' : Prop} (k : G') (h : Hold G' → G := by
  intro k
  repeat (first
    | refine WP.seq ?_ | refine WP.region ?_ | refine OPS.nil ?_ | refine WP.skip ?_ | refine WP.block ?_ | refine XB.hit ?_ | refine XB.miss rfl ?_ | refine WP.exit ?_ | refine WP.label ?_ | refine OPS.nil_s ?_
    | refine Y.v (by first | exact Y.m rfl | exact Y.f rfl rfl | exact Ev.asI rfl | exact Ev.mvS rfl | exact Ev.asS rfl | exact Ev.mvB rfl | exact Ev.asB rfl | exact Y.n rfl | exact Ev.lss rfl rfl | exact Ev.eql rfl rfl | exact Ev.neq rfl rfl | exact Ev.gtr rfl rfl | exact Ev.leq rfl rfl | exact Ev.geq rfl rfl | exact Y.l (by assumption) 0 rfl rfl rfl | exact Y.l (by assumption) 1 rfl rfl rfl | exact Y.l (by assumption) 2 rfl rfl rfl | exact Y.l (by assumption) 3 rfl rfl rfl | exact Y.l (by assumption) 4 rfl rfl rfl | exact Y.l (by assumption) 5 rfl rfl rfl | exact Y.l (by assumption) 6 rfl rfl rfl | exact Y.l (by assumption) 7 rfl rfl rfl | exact Y.x rfl rfl rfl rfl | exact Y.X rfl rfl rfl rfl rfl | exact Y.c (SH.ld0 (by assumption) (by assumption)) rfl | exact Y.p rfl rfl | exact Y.s rfl rfl | exact Ev.not rfl | exact Ev.mvA rfl | exact Ev.asA rfl | exact Ev.mvP rfl | exact Ev.asP rfl | exact Ev.mvF rfl | exact Ev.asF rfl | exact Ev.mvT rfl | exact Ev.extract rfl rfl | exact Ev.pickOr rfl rfl rfl | exact Ev.pickAnd rfl rfl rfl | exact Y.o (by assumption) 0 rfl rfl | exact Y.o (by assumption) 1 rfl rfl | exact Y.o (by assumption) 2 rfl rfl | exact Y.o (by assumption) 3 rfl rfl | exact Y.o (by assumption) 4 rfl rfl | exact Y.o (by assumption) 5 rfl rfl | exact Y.o (by assumption) 6 rfl rfl | exact Ev.nilCheckP rfl | exact Ev.nilCheckF rfl | exact Ev.makeFunc) ?_
    | refine Y.g rfl rfl (fun hg => by first | exact Ev.mvI (by first | rfl | exact gvE hg rfl) | exact Ev.mvS (by first | rfl | exact gvE hg rfl) | exact Ev.mvB (by first | rfl | exact gvE hg rfl) | exact Ev.mvP (by first | rfl | exact gvE hg rfl) | exact Ev.mvA (by first | rfl | exact gvE hg rfl) | exact Ev.fieldAddr (fld_run rfl) (by first | rfl | exact gvE hg rfl) | exact Ev.lss (by first | rfl | exact gvE hg rfl) (by first | rfl | exact gvE hg rfl) | exact Ev.eql (by first | rfl | exact gvE hg rfl) (by first | rfl | exact gvE hg rfl) | exact Ev.neq (by first | rfl | exact gvE hg rfl) (by first | rfl | exact gvE hg rfl) | exact Ev.gtr (by first | rfl | exact gvE hg rfl) (by first | rfl | exact gvE hg rfl) | exact Ev.leq (by first | rfl | exact gvE hg rfl) (by first | rfl | exact gvE hg rfl) | exact Ev.geq (by first | rfl | exact gvE hg rfl) (by first | rfl | exact gvE hg rfl) | exact Ev.load1 (agg_run rfl) (by first | rfl | exact gvE hg rfl) (SH.ldL (by assumption) 0 rfl _ rfl) | exact Ev.load1 (agg_run rfl) (by first | rfl | exact gvE hg rfl) (SH.ldL (by assumption) 1 rfl _ rfl) | exact Ev.load1 (agg_run rfl) (by first | rfl | exact gvE hg rfl) (SH.ldL (by assumption) 2 rfl _ rfl) | exact Ev.load1 (agg_run rfl) (by first | rfl | exact gvE hg rfl) (SH.ldL (by assumption) 3 rfl _ rfl) | exact Ev.load1 (agg_run rfl) (by first | rfl | exact gvE hg rfl) (SH.ldL (by assumption) 4 rfl _ rfl) | exact Ev.len (el_run rfl) (by first | rfl | exact gvE hg rfl) | exact Ev.not (by first | rfl | exact gvE hg rfl) | exact Ev.indexAddr1 (el_run rfl) (size_run rfl) (by first | rfl | exact gvE hg rfl) (by first | rfl | exact gvE hg rfl) rfl (by omega) | exact Ev.indexAddr (el_run rfl) (size_run rfl) (by first | rfl | exact gvE hg rfl) (by first | rfl | exact gvE hg rfl) rfl (by omega)) ?_)
  exact Y.Hold.out k) : G := h ⟨k⟩
end
section
variable {N : Nat} {ops : Array Oper} {Kn : Env → World → Prop} {Kx : Nat → Env → World → Prop} {e : Env} {w w0 : World} {S : List Nat} {L : List Blk} {rest : List Oper} {o : Oper}
theorem sc {α : Type} {a : α} {l : List α} : l.Sublist (a :: l) := List.sublist_cons_self _ _
theorem sl {α : Type} {l l' : List α} : l.Sublist (l ++ l') := List.sublist_append_left _ _
theorem sr {α : Type} {l l' : List α} : l'.Sublist (l ++ l') := List.sublist_append_right _ _
theorem sn {α : Type} {l : List α} : ([] : List α).Sublist l := List.nil_sublist _
/-- a call whose contract is of any form -/
theorem c2 (d : Nat) {f : FuncId} {xs : List Operand} {tys : Array TypeId} {R : Ending → World → Prop} (hop : o.op = .call { callee := .value (.func f), args := xs.toArray, argTypes := tys }) (hC : Calls Try.prog f (xs.map (ev e)).toArray w R)
    (h : ∀ e' w', R e' w' → ∃ v, e' = .returned v ∧ OPS Try.prog N .plain ops Kn rest (updo e (some d) v) w') (hg : o.guard = none := by rfl) (hd : o.dst = some d := by rfl) (hN : Nat.blt d N = true := by rfl) (hf : funT f = true := by rfl) : OPS Try.prog N .plain ops Kn (o :: rest) e w :=
  OPS.call (d := some d) hg hd hN (by rw [hop]; exact EvC.func (fun_run hf)) hC h
/-- a call that returns a value and makes new blocks alone -/
theorem cl (d : Nat) {f : FuncId} {xs : List Operand} {tys : Array TypeId} {v : Value} (hop : o.op = .call { callee := .value (.func f), args := xs.toArray, argTypes := tys }) (hC : Calls Try.prog f (xs.map (ev e)).toArray w fun e' w' => e' = .returned v ∧ Below w.heap.size w w')
    (H : SH w0 S w L) (h : ∀ w', SH w0 S w' L → OPS Try.prog N .plain ops Kn rest (updo e (some d) v) w') (hg : o.guard = none := by rfl) (hd : o.dst = some d := by rfl) (hN : Nat.blt d N = true := by rfl) (hf : funT f = true := by rfl) : OPS Try.prog N .plain ops Kn (o :: rest) e w :=
  c2 d hop hC (fun e' w' ⟨he, hb⟩ => ⟨v, he, h w' (H.toBelow hb)⟩) hg hd hN hf
theorem R {l : List ResultVar} {v : Value} {Q : Ending → World → Prop} (hv : resOf e l = some v) (h : Q (.returned v) w) : WP Try.prog N .ret Kn Kx (fun e w => ∃ v, resOf e l = some v ∧ Q (.returned v) w) e w := WP.ret ⟨v, hv, h⟩
theorem i {c : Operand} {x y : Code} {b : Bool} {Kr : Env → World → Prop} (hc : ev e c = .bool b) (ht : b = true → WP Try.prog N x Kn Kx Kr e w) (hf : b = false → WP Try.prog N y Kn Kx Kr e w) : WP Try.prog N (.cond c x y) Kn Kx Kr e w := WP.cond hc ht hf
end
section
variable {N : Nat} {md : Md} {ops : Array Oper} {K : Env → World → Prop} {e : Env} {w w0 : World} {S : List Nat} {L : List Blk} {rest : List Oper} {d : Nat} {ty t t' : TypeId} {pos : String} {aft : Array Edge} {x1 y1 c1 : Operand} {a b : Int} {k : IntKind} {A : Option Addr}
theorem pr {α β : Type} {a a' : α} {b b' : β} (h : (a, b) = (a', b')) : a = a' ∧ b = b' := by injection h with h1 h2; exact ⟨h1, h2⟩
theorem F {s k off b o : Nat} (hp : (ev e x1, fldT s k) = (.pointer (some ⟨b, o, none⟩), some off)) (h : OPS Try.prog N md ops K rest (upd e d (.pointer (some ⟨b, o + off, none⟩))) w) (hN : Nat.blt d N = true := by rfl) : OPS Try.prog N md ops K ({ dst := some d, op := .fieldAddr s x1 k, type := ty, pos := pos, after := aft, guard := none } :: rest) e w := Y.fa (pr hp).2 (pr hp).1 h hN
theorem J {g k : Nat} {T : TypeId} {cs : List Value} {v : Value} (H : SH w0 S w L) (i : Nat) (ha : (ev e x1, L[i]?, cs[k]?, aggT t) = (.pointer (some ⟨g, k, none⟩), some ⟨g, T, cs⟩, some v, some false)) (h : OPS Try.prog N md ops K rest (upd e d v) w) (hN : Nat.blt d N = true := by rfl) : OPS Try.prog N md ops K ({ dst := some d, op := .load t x1, type := ty, pos := pos, after := aft, guard := none } :: rest) e w :=
  Y.j H i (pr ha).1 (pr (pr ha).2).1 (pr (pr (pr ha).2).2).1 h hN (pr (pr (pr ha).2).2).2
theorem W {d2 : Nat} {ty2 : TypeId} {pos2 : String} {aft2 : Array Edge} {s k off g o : Nat} {T : TypeId} {cs : List Value} {v : Value} (H : SH w0 S w L) (i : Nat) (ha : (ev e x1, fldT s k, L[i]?, cs[o + off]?, aggT t) = (.pointer (some ⟨g, o, none⟩), some off, some ⟨g, T, cs⟩, some v, some false)) (h : OPS Try.prog N md ops K rest (upd (upd e d (.pointer (some ⟨g, o + off, none⟩))) d2 v) w) (hN : Nat.blt d N = true := by rfl) (hN2 : Nat.blt d2 N = true := by rfl) : OPS Try.prog N md ops K ({ dst := some d, op := .fieldAddr s x1 k, type := ty, pos := pos, after := aft, guard := none } :: { dst := some d2, op := .load t (.tmp d), type := ty2, pos := pos2, after := aft2, guard := none } :: rest) e w :=
  Y.fa (pr (pr ha).2).1 (pr ha).1 (Y.j H i (by simp [ev, upd, Nat.beq_eq_true_eq]) (pr (pr (pr ha).2).2).1 (pr (pr (pr (pr ha).2).2).2).1 h hN2 (pr (pr (pr (pr ha).2).2).2).2) hN
theorem P (hx : (ev e x1, ev e y1) = (.int .i64 a, .int .i64 b)) (h : OPS Try.prog N md ops K rest (upd e d (.int .i64 (a + b))) w) (hN : Nat.blt d N = true := by rfl) (hf : fits (a + b) := by unfold fits; omega) : OPS Try.prog N md ops K ({ dst := some d, op := .binOp .add t x1 y1 t', type := ty, pos := pos, after := aft, guard := none } :: rest) e w := Y.v (Y.p (pr hx).1 (pr hx).2 hf) h hN
theorem Q (hx : (ev e x1, ev e y1) = (.int .i64 a, .int .i64 b)) (h : OPS Try.prog N md ops K rest (upd e d (.int .i64 (a - b))) w) (hN : Nat.blt d N = true := by rfl) (hf : fits (a - b) := by unfold fits; omega) : OPS Try.prog N md ops K ({ dst := some d, op := .binOp .sub t x1 y1 t', type := ty, pos := pos, after := aft, guard := none } :: rest) e w := Y.v (Y.s (pr hx).1 (pr hx).2 hf) h hN
theorem lt (hx : (ev e x1, ev e y1) = (.int k a, .int k b)) (h : OPS Try.prog N md ops K rest (upd e d (.bool (decide (a < b)))) w) (hN : Nat.blt d N = true := by rfl) : OPS Try.prog N md ops K ({ dst := some d, op := .binOp .lss t x1 y1 t', type := ty, pos := pos, after := aft, guard := none } :: rest) e w := Y.v (Ev.lss (pr hx).1 (pr hx).2) h hN
theorem V (hx : (ev e x1, ev e y1) = (.int k a, .int k b)) (h : OPS Try.prog N md ops K rest (upd e d (.bool (!decide (a = b)))) w) (hN : Nat.blt d N = true := by rfl) : OPS Try.prog N md ops K ({ dst := some d, op := .binOp .neq t x1 y1 t', type := ty, pos := pos, after := aft, guard := none } :: rest) e w := Y.v (Ev.neq (pr hx).1 (pr hx).2) h hN
theorem sS {n c : Nat} (hx : ev e x1 = .slice A n c) (h : OPS Try.prog N md ops K rest (upd e d (.slice A n c)) w) (hN : Nat.blt d N = true := by rfl) : OPS Try.prog N md ops K ({ dst := some d, op := .move x1, type := ty, pos := pos, after := aft, guard := none } :: rest) e w := Y.v (Ev.mvS hx) h hN
theorem aS {n c : Nat} (hx : ev e x1 = .slice A n c) (h : OPS Try.prog N md ops K rest (upd e d (.slice A n c)) w) (hN : Nat.blt d N = true := by rfl) : OPS Try.prog N md ops K ({ dst := some d, op := .assign x1, type := ty, pos := pos, after := aft, guard := none } :: rest) e w := Y.v (Ev.asS hx) h hN
theorem aB {c : Bool} (hx : ev e x1 = .bool c) (h : OPS Try.prog N md ops K rest (upd e d (.bool c)) w) (hN : Nat.blt d N = true := by rfl) : OPS Try.prog N md ops K ({ dst := some d, op := .assign x1, type := ty, pos := pos, after := aft, guard := none } :: rest) e w := Y.v (Ev.asB hx) h hN
theorem B {c : Bool} (hx : ev e x1 = .bool c) (h : OPS Try.prog N md ops K rest (upd e d (.bool c)) w) (hN : Nat.blt d N = true := by rfl) : OPS Try.prog N md ops K ({ dst := some d, op := .move x1, type := ty, pos := pos, after := aft, guard := none } :: rest) e w := Y.v (Ev.mvB hx) h hN
theorem D (hx : ev e x1 = .pointer A) (h : OPS Try.prog N md ops K rest (upd e d (.pointer A)) w) (hN : Nat.blt d N = true := by rfl) : OPS Try.prog N md ops K ({ dst := some d, op := .move x1, type := ty, pos := pos, after := aft, guard := none } :: rest) e w := Y.v (Ev.mvP hx) h hN
theorem C {a : Addr} (hx : ev e x1 = .pointer (some a)) (h : OPS Try.prog N md ops K rest (upd e d (.pointer (some a))) w) (hN : Nat.blt d N = true := by rfl) : OPS Try.prog N md ops K ({ dst := some d, op := .nilCheck x1, type := ty, pos := pos, after := aft, guard := none } :: rest) e w := Y.v (Ev.nilCheckP hx) h hN
theorem T {vs : Array Value} (hx : ev e x1 = .tuple vs) (h : OPS Try.prog N md ops K rest (upd e d (.tuple vs)) w) (hN : Nat.blt d N = true := by rfl) : OPS Try.prog N md ops K ({ dst := some d, op := .move x1, type := ty, pos := pos, after := aft, guard := none } :: rest) e w := Y.v (Ev.mvT hx) h hN
theorem G {vs : Array Value} {k : Nat} {u : Value} (hx : (ev e x1, vs[k]?) = (.tuple vs, some u)) (h : OPS Try.prog N md ops K rest (upd e d u) w) (hN : Nat.blt d N = true := by rfl) : OPS Try.prog N md ops K ({ dst := some d, op := .extract x1 k, type := ty, pos := pos, after := aft, guard := none } :: rest) e w := Y.v (Ev.extract (pr hx).1 (pr hx).2) h hN
theorem E {el n cap : Nat} (hx : (ev e x1, elT t) = (.slice A n cap, some el)) (h : OPS Try.prog N md ops K rest (upd e d (.int .i64 n)) w) (hN : Nat.blt d N = true := by rfl) : OPS Try.prog N md ops K ({ dst := some d, op := .call { callee := .builtin .len, args := #[x1], argTypes := #[t] }, type := ty, pos := pos, after := aft, guard := none } :: rest) e w := Y.v (Y.n (pr hx).1 (pr hx).2) h hN
theorem O {g : Nat} {T : TypeId} {cs : List Value} (H : SH w0 S w L) (i : Nat) (ha : (ev e x1, L[i]?, aggT t, sizeT t) = (.pointer (some ⟨g, 0, none⟩), some ⟨g, T, cs⟩, some true, some cs.length)) (h : OPS Try.prog N md ops K rest (upd e d (.agg cs.toArray)) w) (hN : Nat.blt d N = true := by rfl) : OPS Try.prog N md ops K ({ dst := some d, op := .load t x1, type := ty, pos := pos, after := aft, guard := none } :: rest) e w :=
  Y.v (Y.o H i (pr ha).1 (pr (pr ha).2).1 (pr (pr (pr ha).2).2).1 (pr (pr (pr ha).2).2).2) h hN
theorem I {el b o n cap j : Nat} {ii : Int} (hx : (elT t, ev e x1, ev e y1, ii, sizeT el) = (some el, .slice (some ⟨b, o, none⟩) n cap, .int k ii, (j : Int), some 1)) (h : OPS Try.prog N md ops K rest (upd e d (.pointer (some ⟨b, o + j, none⟩))) w) (hN : Nat.blt d N = true := by rfl) (hlt : j < n := by omega) : OPS Try.prog N md ops K ({ dst := some d, op := .indexAddr t x1 y1, type := ty, pos := pos, after := aft, guard := none } :: rest) e w :=
  Y.v (Y.x (pr hx).1 (pr (pr hx).2).1 (pr (pr (pr hx).2).2).1 (pr (pr (pr (pr hx).2).2).2).1 hlt (pr (pr (pr (pr hx).2).2).2).2) h hN
theorem U {el sz b o n cap j : Nat} {ii : Int} (hx : (elT t, sizeT el, ev e x1, ev e y1, ii) = (some el, some sz, .slice (some ⟨b, o, none⟩) n cap, .int k ii, (j : Int))) (h : OPS Try.prog N md ops K rest (upd e d (.pointer (some ⟨b, o + j * sz, none⟩))) w) (hN : Nat.blt d N = true := by rfl) (hlt : j < n := by omega) : OPS Try.prog N md ops K ({ dst := some d, op := .indexAddr t x1 y1, type := ty, pos := pos, after := aft, guard := none } :: rest) e w :=
  Y.v (Y.X (pr hx).1 (pr (pr hx).2).1 (pr (pr (pr hx).2).2).1 (pr (pr (pr (pr hx).2).2).2).1 (pr (pr (pr (pr hx).2).2).2).2 hlt) h hN
theorem po {b u : Bool} (hx : (ev e c1, ev e x1, ev e y1) = (.bool b, .bool true, gv b false (.bool u))) (h : OPS Try.prog N md ops K rest (upd e d (.bool (b || u))) w) (hN : Nat.blt d N = true := by rfl) : OPS Try.prog N md ops K ({ dst := some d, op := .pick c1 x1 y1, type := ty, pos := pos, after := aft, guard := none } :: rest) e w := Y.v (Ev.pickOr (pr hx).1 (pr (pr hx).2).1 (pr (pr hx).2).2) h hN
theorem pa {b u : Bool} (hx : (ev e c1, ev e x1, ev e y1) = (.bool b, gv b true (.bool u), .bool false)) (h : OPS Try.prog N md ops K rest (upd e d (.bool (b && u))) w) (hN : Nat.blt d N = true := by rfl) : OPS Try.prog N md ops K ({ dst := some d, op := .pick c1 x1 y1, type := ty, pos := pos, after := aft, guard := none } :: rest) e w := Y.v (Ev.pickAnd (pr hx).1 (pr (pr hx).2).1 (pr (pr hx).2).2) h hN
theorem gf {j dj : Nat} {want q : Bool} {s k off b o : Nat} (hx : (ops[j]?.bind (·.dst), e dj, fldT s k, ev e x1) = (some dj, .bool q, some off, .pointer (some ⟨b, o, none⟩))) (h : OPS Try.prog N md ops K rest (upd e d (gv q want (.pointer (some ⟨b, o + off, none⟩)))) w) (hN : Nat.blt d N = true := by rfl) : OPS Try.prog N md ops K ({ dst := some d, op := .fieldAddr s x1 k, type := ty, pos := pos, after := aft, guard := some (j, want) } :: rest) e w :=
  Y.g (pr hx).1 (pr (pr hx).2).1 (fun _ => Y.f (pr (pr (pr hx).2).2).1 (pr (pr (pr hx).2).2).2) h hN
theorem gm {j dj : Nat} {want q : Bool} {n : Int} (hx : (ops[j]?.bind (·.dst), e dj, ev e x1) = (some dj, .bool q, .int k n)) (h : OPS Try.prog N md ops K rest (upd e d (gv q want (.int k n))) w) (hN : Nat.blt d N = true := by rfl) : OPS Try.prog N md ops K ({ dst := some d, op := .move x1, type := ty, pos := pos, after := aft, guard := some (j, want) } :: rest) e w :=
  Y.g (pr hx).1 (pr (pr hx).2).1 (fun _ => Y.m (pr (pr hx).2).2) h hN
theorem yy {j dj : Nat} {want q : Bool} (H : SH w0 S w L) (i : Nat) {g c : Nat} {T : TypeId} {cs : List Value} {v : Value} (hx : (ops[j]?.bind (·.dst), e dj, ev e x1, L[i]?, cs[c]?, aggT t) = (some dj, .bool q, gv q want (.pointer (some ⟨g, c, none⟩)), some ⟨g, T, cs⟩, some v, some false)) (h : OPS Try.prog N md ops K rest (upd e d (gv q want v)) w) (hN : Nat.blt d N = true := by rfl) : OPS Try.prog N md ops K ({ dst := some d, op := .load t x1, type := ty, pos := pos, after := aft, guard := some (j, want) } :: rest) e w :=
  Y.y (pr hx).1 (pr (pr hx).2).1 H i (fun hg => gvE hg (pr (pr (pr hx).2).2).1) (pr (pr (pr (pr hx).2).2).2).1 (pr (pr (pr (pr (pr hx).2).2).2).2).1 h hN (pr (pr (pr (pr (pr hx).2).2).2).2).2
theorem M {el sz bt m : Nat} {n : Int} {k k' : IntKind} {zs : List Value} (H : SH w0 S w L) (hf : slT t = some (el, sz, bt, zs))
    (h : ∀ g w', SH w0 S w' (⟨g, el, mkL m zs⟩ :: L) → OPS Try.prog N .plain ops K rest (upd e d (.slice (some ⟨g, 0, none⟩) m m)) w') (hN : Nat.blt d N = true := by rfl) (hx : ev e x1 = .int k n := by first | rfl | assumption) (hy : ev e y1 = .int k' n := by first | rfl | assumption) (hn : n = (m : Int) := by rfl) (hb : bt * m ≤ 140737488355328 := by omega) (hm : m ≤ 9223372036854775807 := by omega) : OPS Try.prog N .plain ops K ({ dst := some d, op := .makeSlice t x1 y1, type := ty, pos := pos, after := aft, guard := none } :: rest) e w :=
  Y.mk H (sl_run hf) h hN hx hy hn hb hm
theorem bz {n : Int} (hx : ev e x1 = .int k n) (h : K (upd e d (.int k n)) w) (hN : Nat.blt d N = true := by rfl) : OPS Try.prog N .plain ops K [{ dst := some d, op := .assign x1, type := ty, pos := pos, after := aft, guard := none }] e w := Y.b hx (Y.z h) hN
end
section
variable {N : Nat} {ops : Array Oper} {K : Env → World → Prop} {e : Env} {w w0 : World} {S : List Nat} {L : List Blk} {fuel f : Nat} {listed : Array Bool} {d : Nat} {x1 y1 : Operand} {ty u : TypeId} {pos : String} {aft : Array Edge}
theorem tf (i : Nat) (H : SH w0 S w L) {s k off b o : Nat} (hi : (ops[i]?, fuel, ev e x1, fldT s k) = (some { dst := some d, op := .fieldAddr s x1 k, type := ty, pos := pos, after := aft, guard := none }, f + 1, .pointer (some ⟨b, o, none⟩), some off))
    (h : OPH Try.prog N ops K w0 S L f (listed.setIfInBounds i true) (upd e d (.pointer (some ⟨b, o + off, none⟩))) w) (hN : Nat.blt d N = true := by rfl) (hs : Region.noSelect ops = true := by kernel_rfl) (hf : Region.free .any ops listed i = true := by kernel_rfl) (hr : (Region.ready .any ops listed).contains i = true := by kernel_rfl) : OPH Try.prog N ops K w0 S L fuel listed e w :=
  Y.t i H (pr hi).1 (pr (pr hi).2).1 (fun _ _ => Y.f (pr (pr (pr hi).2).2).2 (pr (pr (pr hi).2).2).1) h hN hs hf hr
theorem tl (i : Nat) (H : SH w0 S w L) (j : Nat) {g k : Nat} {T : TypeId} {cs : List Value} {v : Value} (hi : (ops[i]?, fuel, ev e x1, L[j]?, cs[k]?, aggT u) = (some { dst := some d, op := .load u x1, type := ty, pos := pos, after := aft, guard := none }, f + 1, .pointer (some ⟨g, k, none⟩), some ⟨g, T, cs⟩, some v, some false))
    (h : OPH Try.prog N ops K w0 S L f (listed.setIfInBounds i true) (upd e d v) w) (hN : Nat.blt d N = true := by rfl) (hs : Region.noSelect ops = true := by kernel_rfl) (hf : Region.free .any ops listed i = true := by kernel_rfl) (hr : (Region.ready .any ops listed).contains i = true := by kernel_rfl) : OPH Try.prog N ops K w0 S L fuel listed e w :=
  Y.t i H (pr hi).1 (pr (pr hi).2).1 (fun _ H => Y.l H j (pr (pr (pr hi).2).2).1 (pr (pr (pr (pr hi).2).2).2).1 (pr (pr (pr (pr (pr hi).2).2).2).2).1 (pr (pr (pr (pr (pr hi).2).2).2).2).2) h hN hs hf hr
end
section
variable {N : Nat} {Kn : Env → World → Prop} {Kx : Nat → Env → World → Prop} {Kr : Env → World → Prop} {e : Env} {w : World} {id : Nat}
theorem qq {l : List Oper} {y y' : Code} (h : OPS Try.prog N .plain l.toArray (fun e w => WP Try.prog N y (fun e w => WP Try.prog N y' Kn Kx Kr e w) Kx Kr e w) l e w) : WP Try.prog N (.seq (.seq (.region id l.toArray false) y) y') Kn Kx Kr e w := WP.seq (WP.seq (WP.region h))
end
end Go.Proofs.Ytchjbjplddhknaa.Y

/-
  Walks: within, all, Fleet, few.
-/
set_option linter.all false
namespace Go.Proofs.Ytchjbjplddhknaa
open Go Go.W Go.RowKit

def wIn (n lo hi : Int) : Bool := decide (lo ≤ n) && decide (n ≤ hi)
theorem within (n lo hi : Int) (w0 : World) : Calls Try.prog 27 #[I n, I lo, I hi] w0 fun e w' => e = .returned (.bool (wIn n lo hi)) ∧ Below w0.heap.size w0 w' := by
  have H := SH.refl w0
  refine Calls.ofWP Try.func27 rfl Try.results27 Try.ntmps27 rfl ?_
  refine WP.seq ?_
  refine WP.region ?_
  refine OPS.val rfl rfl rfl (Ev.asB rfl) ?_
  refine OPS.nil ?_
  refine WP.seq ?_
  refine WP.region ?_
  refine OPS.val rfl rfl rfl (Ev.mvI rfl) ?_
  refine OPS.val rfl rfl rfl (Ev.mvI rfl) ?_
  refine OPS.val rfl rfl rfl (Ev.leq rfl rfl) ?_
  refine OPS.val rfl rfl rfl (Ev.mvB rfl) ?_
  refine OPS.gval rfl rfl rfl rfl rfl (fun hg => Ev.mvI (by first | rfl | exact gvE hg rfl)) ?_
  refine OPS.gval rfl rfl rfl rfl rfl (fun hg => Ev.mvI (by first | rfl | exact gvE hg rfl)) ?_
  refine OPS.gval rfl rfl rfl rfl rfl (fun hg => Ev.leq (by first | rfl | exact gvE hg rfl) (by first | rfl | exact gvE hg rfl)) ?_
  refine OPS.val rfl rfl rfl ((by first | exact Ev.pickOr rfl rfl rfl | exact Ev.pickAnd rfl rfl rfl)) ?_
  refine OPS.val rfl rfl rfl (Ev.asB rfl) ?_
  refine OPS.nil ?_
  refine WP.ret ⟨_, rfl, ?_⟩
  exact ⟨rfl, H.below⟩
def allIn (l : List Int) (most : Int) : Bool := l.all fun n => wIn n 1 most
theorem allIn_drop {l : List Int} {m : Int} : ∀ {j : Nat}, j ≤ l.length → (∀ i (h : i < l.length), i < j → wIn l[i] 1 m = true) → allIn l m = allIn (l.drop j) m
  | 0, _, _ => by simp
  | j + 1, hj, h => by
    rw [allIn_drop (j := j) (by omega) (fun i h1 h2 => h i h1 (by omega)), List.drop_eq_getElem_cons (show j < l.length by omega), allIn, List.all_cons, h j (by omega) (by omega), Bool.true_and]
    rfl
theorem eventAll (A : Option Addr) (l : List Int) (cap : Nat) (m : Int) (w0 : World) (hz : IntsAt w0 A l) (hl : l.length ≤ 1000) :
    Calls Try.prog 28 #[.slice A l.length cap, I m] w0 fun e w' => e = .returned (.bool (allIn l m)) ∧ Below w0.heap.size w0 w' := by
  have H := SH.refl w0
  refine Calls.ofWP Try.func28 rfl Try.results28 Try.ntmps28 rfl ?_
  refine WP.seq ?_
  refine WP.region ?_
  refine OPS.val rfl rfl rfl (Ev.asB rfl) ?_
  refine OPS.nil ?_
  refine WP.seq ?_
  refine WP.seq ?_
  refine WP.region ?_
  refine OPS.val rfl rfl rfl (Ev.mvS rfl) ?_
  refine OPS.val rfl rfl rfl (Ev.len (el_run rfl) rfl) ?_
  refine OPS.val rfl rfl rfl (Ev.mvI rfl) ?_
  refine OPS.nil ?_
  refine WP.block ?_
  refine WP.loop [4, 6, 9, 10, 11, 12, 13, 14, 15, 16, 17] (fun k e w' => ∃ (j : Nat), j + k = l.length ∧ e 9 = I j ∧ (∀ i (h : i < l.length), i < j → wIn l[i] 1 m = true) ∧ SH w0 [] w' []) (l.length) (⟨0, by omega, rfl, fun _ _ _ => by omega, H⟩) ?_
  clear H
  rintro k u w ⟨j, hk, h9, hall, H⟩
  refine WP.know (t := 9) h9 ?_
  refine WP.seq ?_
  refine WP.region ?_
  refine OPS.val rfl rfl rfl (Ev.lss rfl rfl) ?_
  refine OPS.nil ?_
  refine WP.seq ?_
  refine WP.cond rfl (fun hc2 => ?_) (fun hc2 => ?_)
  · have hlt : j < l.length := by simpa using hc2
    obtain ⟨b, o, rfl, hx⟩ := hz j hlt
    refine WP.skip ?_
    refine WP.seq ?_
    refine WP.block ?_
    refine WP.seq ?_
    refine WP.region ?_
    refine OPS.val rfl rfl rfl ((by first | exact Ev.indexAddr1 (el_run rfl) (size_run rfl) rfl rfl rfl (by omega) | exact Ev.indexAddr (el_run rfl) (size_run rfl) rfl rfl rfl (by omega))) ?_
    refine OPS.val rfl rfl rfl (Ev.load1 (agg_run rfl) rfl (by first | exact H.ldL 0 rfl _ rfl | exact H.ldL 1 rfl _ rfl | exact H.ldL 2 rfl _ rfl | exact H.ldL 3 rfl _ rfl | exact H.ldL 4 rfl _ rfl | exact H.ldL 5 rfl _ rfl | exact H.ldL 6 rfl _ rfl | exact H.ldL 7 rfl _ rfl | exact H.ld0 (by assumption) | assumption | exact H.ldS (by assumption) (by assumption))) ?_
    refine OPS.val rfl rfl rfl (Ev.asI rfl) ?_
    refine OPS.nil ?_
    refine WP.seq ?_
    refine WP.region ?_
    refine OPS.val rfl rfl rfl (Ev.mvI rfl) ?_
    refine OPS.val rfl rfl rfl (Ev.mvI rfl) ?_
    refine OPS.call (d := some 15) rfl rfl rfl (EvC.func (fun_run rfl)) (within l[j] 1 m _) ?_
    rintro _ w ⟨rfl, hb⟩
    refine ⟨_, rfl, ?_⟩
    replace H := H.toBelow hb; clear hb
    refine OPS.val rfl rfl rfl (Ev.not rfl) ?_
    refine OPS.nil ?_
    refine WP.cond rfl (fun hc4 => ?_) (fun hc4 => ?_)
    · refine WP.seq ?_
      refine WP.region ?_
      refine OPS.val rfl rfl rfl (Ev.asB rfl) ?_
      refine OPS.nil ?_
      refine WP.ret ⟨_, rfl, ?_⟩
      have hne : wIn l[j] 1 m = false := by simpa using hc4
      exact ⟨by rw [allIn_drop (j := j) (by omega) hall, List.drop_eq_getElem_cons hlt, allIn, List.all_cons, hne]; rfl, H.below⟩
    have hne : wIn l[j] 1 m = true := by simpa using hc4
    refine WP.skip ?_
    refine WP.region ?_
    refine OPS.val rfl rfl rfl (Ev.add rfl rfl (by unfold fits; omega)) ?_
    refine OPS.val rfl rfl rfl (Ev.mvI rfl) ?_
    refine OPS.nil ?_
    exact ⟨(by repeat (first | exact Agree.refl _ _ | exact Agree.mix _ _ _ | refine Agree.upd rfl ?_ | refine Agree.mix2 rfl ?_)), k - 1, by omega, j + 1, by omega, rfl, (fun i h1 h2 => by
      rcases Nat.lt_or_eq_of_le (Nat.le_of_lt_succ h2) with h | rfl
      · exact hall i h1 h
      · exact hne), H⟩
  refine WP.exit ?_
  refine XB.hit ?_
  refine WP.seq ?_
  refine WP.region ?_
  refine OPS.val rfl rfl rfl (Ev.asB rfl) ?_
  refine OPS.nil ?_
  refine WP.ret ⟨_, rfl, ?_⟩
  have hj : j = l.length := by simp at hc2; omega
  exact ⟨by rw [allIn_drop (j := j) (by omega) hall, hj, List.drop_length]; rfl, H.below⟩
/-- a fleet -/
structure Flt where
  bk : Int
  rd : Int
  dv : Int
  ds : List Int
  ts : List Int
def flC (f : Flt) (A : Option Addr) (ca : Nat) (B : Option Addr) (cb : Nat) : List Value := [I f.bk, I f.rd, I f.dv, .slice A f.ds.length ca, .slice B f.ts.length cb]
structure FlAt (w : World) (f : Flt) (A B : Option Addr) : Prop where
  ds : IntsAt w A f.ds
  ts : IntsAt w B f.ts
  dl : f.ds.length ≤ 40
  tl : f.ts.length ≤ 40
theorem FlAt.sh {w0 w : World} {f : Flt} {A B : Option Addr} {L : List Blk} (h : FlAt w0 f A B) (H : SH w0 [] w L) : FlAt w f A B := ⟨h.ds.sh H, h.ts.sh H, h.dl, h.tl⟩
def flErr (f : Flt) : Int :=
  if (!wIn f.bk 1 128 || !wIn f.rd 1 128 || !wIn f.dv 1 256) = true then 1
  else if (decide (32 < (f.ds.length : Int)) || decide (8 < (f.ts.length : Int))) = true then 8
  else if (!allIn f.ds 32 || !allIn f.ts 32) = true then 1 else 0
theorem eventFleet (f : Flt) (A : Option Addr) (ca : Nat) (B : Option Addr) (cb : Nat) (w0 : World) (hf : FlAt w0 f A B) :
    Calls Try.prog 16 #[.agg (flC f A ca B cb).toArray] w0 fun e w' => e = .returned (I (flErr f)) ∧ Below w0.heap.size w0 w' := by
  have H := SH.refl w0
  have hdl := hf.dl
  have htl := hf.tl
  unfold flC
  refine Calls.ofWP Try.func16 rfl Try.results16 Try.ntmps16 rfl ?_
  refine WP.seq ?_
  refine WP.region ?_
  refine OPS.box rfl rfl rfl rfl (cA rfl) H ?_
  clear H; intro g1 w H
  refine OPS.val rfl rfl rfl (Ev.asI rfl) ?_
  refine OPS.nil ?_
  refine WP.seq ?_
  refine WP.seq ?_
  refine WP.region ?_
  refine OPS.val rfl rfl rfl (Ev.fieldAddr (fld_run rfl) rfl) ?_
  refine OPS.val rfl rfl rfl (Ev.load1 (agg_run rfl) rfl (by first | exact H.ldL 0 rfl _ rfl | exact H.ldL 1 rfl _ rfl | exact H.ldL 2 rfl _ rfl | exact H.ldL 3 rfl _ rfl | exact H.ldL 4 rfl _ rfl | exact H.ldL 5 rfl _ rfl | exact H.ldL 6 rfl _ rfl | exact H.ldL 7 rfl _ rfl | exact H.ld0 (by assumption) | assumption | exact H.ldS (by assumption) (by assumption))) ?_
  refine OPS.call (d := some 5) rfl rfl rfl (EvC.func (fun_run rfl)) (within f.bk 1 128 _) ?_
  rintro _ w ⟨rfl, hb⟩
  refine ⟨_, rfl, ?_⟩
  replace H := H.toBelow hb; clear hb
  refine OPS.val rfl rfl rfl (Ev.not rfl) ?_
  refine OPS.val rfl rfl rfl (Ev.mvB rfl) ?_
  refine OPS.gval rfl rfl rfl rfl rfl (fun hg => Ev.fieldAddr (fld_run rfl) (by first | rfl | exact gvE hg rfl)) ?_
  refine OPS.gval rfl rfl rfl rfl rfl (fun hg => Ev.load1 (agg_run rfl) (by first | rfl | exact gvE hg rfl) (by first | exact H.ldL 0 rfl _ rfl | exact H.ldL 1 rfl _ rfl | exact H.ldL 2 rfl _ rfl | exact H.ldL 3 rfl _ rfl | exact H.ldL 4 rfl _ rfl | exact H.ldL 5 rfl _ rfl | exact H.ldL 6 rfl _ rfl | exact H.ldL 7 rfl _ rfl | exact H.ld0 (by assumption) | assumption | exact H.ldS (by assumption) (by assumption))) ?_
  refine OPS.gcall0 (f := 27) (within f.rd 1 128 _) (fun _ _ h => h) rfl rfl rfl rfl rfl (fun hg => EvC.conv (EvC.func (fun_run rfl)) (l3 (by first | rfl | exact gvE hg rfl) (by first | rfl | exact gvE hg rfl) (by first | rfl | exact gvE hg rfl))) ?_
  intro w hbc; replace H := H.toBelow hbc
  refine OPS.gval rfl rfl rfl rfl rfl (fun hg => Ev.not (by first | rfl | exact gvE hg rfl)) ?_
  refine OPS.val rfl rfl rfl ((by first | exact Ev.pickOr rfl rfl rfl | exact Ev.pickAnd rfl rfl rfl)) ?_
  refine OPS.val rfl rfl rfl (Ev.mvB rfl) ?_
  refine OPS.gval rfl rfl rfl rfl rfl (fun hg => Ev.fieldAddr (fld_run rfl) (by first | rfl | exact gvE hg rfl)) ?_
  refine OPS.gval rfl rfl rfl rfl rfl (fun hg => Ev.load1 (agg_run rfl) (by first | rfl | exact gvE hg rfl) (by first | exact H.ldL 0 rfl _ rfl | exact H.ldL 1 rfl _ rfl | exact H.ldL 2 rfl _ rfl | exact H.ldL 3 rfl _ rfl | exact H.ldL 4 rfl _ rfl | exact H.ldL 5 rfl _ rfl | exact H.ldL 6 rfl _ rfl | exact H.ldL 7 rfl _ rfl | exact H.ld0 (by assumption) | assumption | exact H.ldS (by assumption) (by assumption))) ?_
  refine OPS.gcall0 (f := 27) (within f.dv 1 256 _) (fun _ _ h => h) rfl rfl rfl rfl rfl (fun hg => EvC.conv (EvC.func (fun_run rfl)) (l3 (by first | rfl | exact gvE hg rfl) (by first | rfl | exact gvE hg rfl) (by first | rfl | exact gvE hg rfl))) ?_
  intro w hbc; replace H := H.toBelow hbc
  refine OPS.gval rfl rfl rfl rfl rfl (fun hg => Ev.not (by first | rfl | exact gvE hg rfl)) ?_
  refine OPS.val rfl rfl rfl ((by first | exact Ev.pickOr rfl rfl rfl | exact Ev.pickAnd rfl rfl rfl)) ?_
  refine OPS.nil ?_
  refine WP.cond rfl (fun hc1 => ?_) (fun hc1 => ?_)
  · refine WP.seq ?_
    refine WP.region ?_
    refine OPS.val rfl rfl rfl (Ev.asI rfl) ?_
    refine OPS.nil ?_
    refine WP.ret ⟨_, rfl, ?_⟩
    exact ⟨by rw [flErr, if_pos hc1]; rfl, H.below⟩
  refine WP.skip ?_
  refine WP.seq ?_
  refine WP.seq ?_
  refine WP.region ?_
  refine OPS.val rfl rfl rfl (Ev.fieldAddr (fld_run rfl) rfl) ?_
  refine OPS.val rfl rfl rfl (Ev.load1 (agg_run rfl) rfl (by first | exact H.ldL 0 rfl _ rfl | exact H.ldL 1 rfl _ rfl | exact H.ldL 2 rfl _ rfl | exact H.ldL 3 rfl _ rfl | exact H.ldL 4 rfl _ rfl | exact H.ldL 5 rfl _ rfl | exact H.ldL 6 rfl _ rfl | exact H.ldL 7 rfl _ rfl | exact H.ld0 (by assumption) | assumption | exact H.ldS (by assumption) (by assumption))) ?_
  refine OPS.val rfl rfl rfl (Ev.len (el_run rfl) rfl) ?_
  refine OPS.val rfl rfl rfl (Ev.gtr rfl rfl) ?_
  refine OPS.val rfl rfl rfl (Ev.mvB rfl) ?_
  refine OPS.gval rfl rfl rfl rfl rfl (fun hg => Ev.fieldAddr (fld_run rfl) (by first | rfl | exact gvE hg rfl)) ?_
  refine OPS.gval rfl rfl rfl rfl rfl (fun hg => Ev.load1 (agg_run rfl) (by first | rfl | exact gvE hg rfl) (by first | exact H.ldL 0 rfl _ rfl | exact H.ldL 1 rfl _ rfl | exact H.ldL 2 rfl _ rfl | exact H.ldL 3 rfl _ rfl | exact H.ldL 4 rfl _ rfl | exact H.ldL 5 rfl _ rfl | exact H.ldL 6 rfl _ rfl | exact H.ldL 7 rfl _ rfl | exact H.ld0 (by assumption) | assumption | exact H.ldS (by assumption) (by assumption))) ?_
  refine OPS.gval rfl rfl rfl rfl rfl (fun hg => Ev.len (el_run rfl) (by first | rfl | exact gvE hg rfl)) ?_
  refine OPS.gval rfl rfl rfl rfl rfl (fun hg => Ev.gtr (by first | rfl | exact gvE hg rfl) (by first | rfl | exact gvE hg rfl)) ?_
  refine OPS.val rfl rfl rfl ((by first | exact Ev.pickOr rfl rfl rfl | exact Ev.pickAnd rfl rfl rfl)) ?_
  refine OPS.nil ?_
  refine WP.cond rfl (fun hc3 => ?_) (fun hc3 => ?_)
  · refine WP.seq ?_
    refine WP.region ?_
    refine OPS.val rfl rfl rfl (Ev.asI rfl) ?_
    refine OPS.nil ?_
    refine WP.ret ⟨_, rfl, ?_⟩
    exact ⟨by rw [flErr, if_neg (by simpa using hc1), if_pos hc3]; rfl, H.below⟩
  refine WP.skip ?_
  refine WP.seq ?_
  refine WP.seq ?_
  refine WP.region ?_
  refine OPS.val rfl rfl rfl (Ev.fieldAddr (fld_run rfl) rfl) ?_
  refine OPS.val rfl rfl rfl (Ev.load1 (agg_run rfl) rfl (by first | exact H.ldL 0 rfl _ rfl | exact H.ldL 1 rfl _ rfl | exact H.ldL 2 rfl _ rfl | exact H.ldL 3 rfl _ rfl | exact H.ldL 4 rfl _ rfl | exact H.ldL 5 rfl _ rfl | exact H.ldL 6 rfl _ rfl | exact H.ldL 7 rfl _ rfl | exact H.ld0 (by assumption) | assumption | exact H.ldS (by assumption) (by assumption))) ?_
  refine OPS.call (d := some 31) rfl rfl rfl (EvC.func (fun_run rfl)) (eventAll A f.ds ca 32 _ (hf.ds.sh H) (by omega)) ?_
  rintro _ w ⟨rfl, hb⟩
  refine ⟨_, rfl, ?_⟩
  replace H := H.toBelow hb; clear hb
  refine OPS.val rfl rfl rfl (Ev.not rfl) ?_
  refine OPS.val rfl rfl rfl (Ev.mvB rfl) ?_
  refine OPS.gval rfl rfl rfl rfl rfl (fun hg => Ev.fieldAddr (fld_run rfl) (by first | rfl | exact gvE hg rfl)) ?_
  refine OPS.gval rfl rfl rfl rfl rfl (fun hg => Ev.load1 (agg_run rfl) (by first | rfl | exact gvE hg rfl) (by first | exact H.ldL 0 rfl _ rfl | exact H.ldL 1 rfl _ rfl | exact H.ldL 2 rfl _ rfl | exact H.ldL 3 rfl _ rfl | exact H.ldL 4 rfl _ rfl | exact H.ldL 5 rfl _ rfl | exact H.ldL 6 rfl _ rfl | exact H.ldL 7 rfl _ rfl | exact H.ld0 (by assumption) | assumption | exact H.ldS (by assumption) (by assumption))) ?_
  refine OPS.gcall0 (f := 28) (eventAll B f.ts cb 32 _ (hf.ts.sh H) (by omega)) (fun _ _ h => h) rfl rfl rfl rfl rfl (fun hg => EvC.conv (EvC.func (fun_run rfl)) (l2 (by first | rfl | exact gvE hg rfl) (by first | rfl | exact gvE hg rfl))) ?_
  intro w hbc; replace H := H.toBelow hbc
  refine OPS.gval rfl rfl rfl rfl rfl (fun hg => Ev.not (by first | rfl | exact gvE hg rfl)) ?_
  refine OPS.val rfl rfl rfl ((by first | exact Ev.pickOr rfl rfl rfl | exact Ev.pickAnd rfl rfl rfl)) ?_
  refine OPS.nil ?_
  refine WP.cond rfl (fun hc5 => ?_) (fun hc5 => ?_)
  · refine WP.seq ?_
    refine WP.region ?_
    refine OPS.val rfl rfl rfl (Ev.asI rfl) ?_
    refine OPS.nil ?_
    refine WP.ret ⟨_, rfl, ?_⟩
    exact ⟨by rw [flErr, if_neg (by simpa using hc1), if_neg (by simpa using hc3), if_pos hc5]; rfl, H.below⟩
  refine WP.skip ?_
  refine WP.seq ?_
  refine WP.region ?_
  refine OPS.val rfl rfl rfl (Ev.asI rfl) ?_
  refine OPS.nil ?_
  refine WP.ret ⟨_, rfl, ?_⟩
  exact ⟨by rw [flErr, if_neg (by simpa using hc1), if_neg (by simpa using hc3), if_neg (by simpa using hc5)]; rfl, H.below⟩
end Go.Proofs.Ytchjbjplddhknaa

/-
  Walks: placed, named, Check, few.
-/
set_option linter.all false
namespace Go.Proofs.Ytchjbjplddhknaa
open Go Go.W Go.RowKit

def plB (f : Flt) (x : Evt) : Bool :=
  if x.k = 1 then (decide (0 ≤ x.p) && decide (x.p.tdiv 32 < (f.ds.length : Int))) && decide (x.p.tmod 32 < f.ds.getD (x.p.tdiv 32).toNat 0)
  else if x.k = 2 then wIn x.p 0 63
  else if x.k = 7 then wIn x.p 0 ((f.ts.length : Int) - 1)
  else decide (x.p = 0)
theorem wrap_tdiv {a b : Int} (h : fits a) (hb : 1 < b) : fits (a.tdiv b) := by
  have h1 := h.1
  have h2 := h.2
  rcases Int.le_total 0 a with h0 | h0
  · rw [Int.tdiv_eq_ediv_of_nonneg h0]
    exact ⟨by have := Int.ediv_nonneg h0 (show 0 ≤ b by omega); omega, by have := Int.ediv_le_self b h0; omega⟩
  · have h3 : 0 ≤ -a := by omega
    rw [show a = -(-a) by omega, Int.neg_tdiv, Int.tdiv_eq_ediv_of_nonneg h3]
    have h4 := Int.ediv_nonneg h3 (show 0 ≤ b by omega)
    have h5 := Int.ediv_le_self b h3
    by_cases h6 : -a / b = 9223372036854775808
    · exfalso
      have h7 := Int.mul_ediv_self_le (x := -a) (k := b) (by omega)
      rw [h6] at h7
      omega
    · exact ⟨by omega, by omega⟩
theorem Ev.quoT {e : Env} {w : World} {ty t t' : TypeId} {x y : Operand} {a b : Int} (hx : ev e x = .int .i64 a) (hy : ev e y = .int .i64 b) (h : fits a) (hb : 1 < b) : Ev Try.prog e w ty (.binOp .quo t x y t') (.int .i64 (a.tdiv b)) :=
  Ev.bin hx hy fun w => by
    have hb0 : b ≠ 0 := by omega
    simp [binOp, Op.intDiv, hb0, wrap_fits (wrap_tdiv h hb)]
theorem Ev.remT {e : Env} {w : World} {ty t t' : TypeId} {x y : Operand} {a b : Int} (hx : ev e x = .int .i64 a) (hy : ev e y = .int .i64 b) (hb : 1 < b) : Ev Try.prog e w ty (.binOp .rem t x y t') (.int .i64 (a.tmod b)) :=
  Ev.bin hx hy fun w => by
    have hb0 : b ≠ 0 := by omega
    simp [binOp, Op.intDiv, hb0]
theorem placed (f : Flt) (x : Evt) (A : Option Addr) (ca : Nat) (B : Option Addr) (cb : Nat) (w0 : World) (hf : FlAt w0 f A B) (hp : fits x.p) :
    Calls Try.prog 45 #[.agg (flC f A ca B cb).toArray, .agg (evC x).toArray] w0 fun e w' => e = .returned (.bool (plB f x)) ∧ Below w0.heap.size w0 w' := by
  have H := SH.refl w0
  have hdl := hf.dl
  have htl := hf.tl
  obtain ⟨b, o, hA⟩ : ∃ b o, (decide (0 ≤ x.p) && decide (x.p.tdiv 32 < (f.ds.length : Int))) = true → 0 ≤ x.p.tdiv 32 ∧ x.p.tdiv 32 < (f.ds.length : Int) ∧ A = some ⟨b, o, none⟩ ∧ w0.cell? ⟨b, o + (x.p.tdiv 32).toNat, none⟩ = some (I (f.ds.getD (x.p.tdiv 32).toNat 0)) := by
    by_cases hq : (decide (0 ≤ x.p) && decide (x.p.tdiv 32 < (f.ds.length : Int))) = true
    · have hq' : 0 ≤ x.p ∧ x.p.tdiv 32 < (f.ds.length : Int) := by simpa using hq
      have h0 : 0 ≤ x.p.tdiv 32 := by rw [Int.tdiv_eq_ediv_of_nonneg hq'.1]; omega
      obtain ⟨b, o, h1, h2⟩ := hf.ds (x.p.tdiv 32).toNat (by omega)
      refine ⟨b, o, fun _ => ⟨h0, hq'.2, h1, ?_⟩⟩
      rw [h2, List.getD_eq_getElem?_getD, List.getElem?_eq_getElem (by omega)]; rfl
    · exact ⟨0, 0, fun h => absurd h hq⟩
  unfold flC evC
  refine Calls.ofWP Try.func45 rfl Try.results45 Try.ntmps45 rfl ?_
  refine WP.seq ?_
  refine WP.region ?_
  refine OPS.box rfl rfl rfl rfl (cA rfl) H ?_
  clear H; intro g2 w H
  refine OPS.box rfl rfl rfl rfl (cA rfl) H ?_
  clear H; intro g3 w H
  refine OPS.val rfl rfl rfl (Ev.asB rfl) ?_
  refine OPS.nil ?_
  refine WP.seq ?_
  refine WP.seq ?_
  refine WP.region ?_
  refine OPS.val rfl rfl rfl (Ev.fieldAddr (fld_run rfl) rfl) ?_
  refine OPS.val rfl rfl rfl (Ev.load1 (agg_run rfl) rfl (by first | exact H.ldL 0 rfl _ rfl | exact H.ldL 1 rfl _ rfl | exact H.ldL 2 rfl _ rfl | exact H.ldL 3 rfl _ rfl | exact H.ldL 4 rfl _ rfl | exact H.ldL 5 rfl _ rfl | exact H.ldL 6 rfl _ rfl | exact H.ldL 7 rfl _ rfl | exact H.ld0 (by assumption) | assumption | exact H.ldS (by assumption) (by assumption))) ?_
  refine OPS.nil ?_
  refine WP.block ?_
  refine WP.seq ?_
  refine WP.region ?_
  refine OPS.val rfl rfl rfl (Ev.eql rfl rfl) ?_
  refine OPS.val rfl rfl rfl (Ev.asB rfl) ?_
  refine OPS.nil ?_
  refine WP.cond rfl (fun hc2 => ?_) (fun hc2 => ?_)
  · refine WP.seq ?_
    refine WP.rstill mixed (by kernel_rfl) H ?_
    clear H; intro w hbw3 H
    refine OPS.val rfl rfl rfl (Ev.fieldAddr (fld_run rfl) rfl) ?_
    refine OPS.val rfl rfl rfl (Ev.load1 (agg_run rfl) rfl (by first | exact H.ldL 0 rfl _ rfl | exact H.ldL 1 rfl _ rfl | exact H.ldL 2 rfl _ rfl | exact H.ldL 3 rfl _ rfl | exact H.ldL 4 rfl _ rfl | exact H.ldL 5 rfl _ rfl | exact H.ldL 6 rfl _ rfl | exact H.ldL 7 rfl _ rfl | exact H.ld0 (by assumption) | assumption | exact H.ldS (by assumption) (by assumption))) ?_
    refine OPS.val rfl rfl rfl (Ev.quoT rfl rfl hp (by omega)) ?_
    refine OPS.val rfl rfl rfl (Ev.fieldAddr (fld_run rfl) rfl) ?_
    refine OPS.val rfl rfl rfl (Ev.load1 (agg_run rfl) rfl (by first | exact H.ldL 0 rfl _ rfl | exact H.ldL 1 rfl _ rfl | exact H.ldL 2 rfl _ rfl | exact H.ldL 3 rfl _ rfl | exact H.ldL 4 rfl _ rfl | exact H.ldL 5 rfl _ rfl | exact H.ldL 6 rfl _ rfl | exact H.ldL 7 rfl _ rfl | exact H.ld0 (by assumption) | assumption | exact H.ldS (by assumption) (by assumption))) ?_
    refine OPS.val rfl rfl rfl (Ev.remT rfl rfl (by omega)) ?_
    refine OPS.val rfl rfl rfl (Ev.asI rfl) ?_
    refine OPS.val rfl rfl rfl (Ev.asI rfl) ?_
    refine OPS.nil_s ?_
    refine WP.seq ?_
    refine WP.region ?_
    refine OPS.val rfl rfl rfl (Ev.fieldAddr (fld_run rfl) rfl) ?_
    refine OPS.val rfl rfl rfl (Ev.load1 (agg_run rfl) rfl (by first | exact H.ldL 0 rfl _ rfl | exact H.ldL 1 rfl _ rfl | exact H.ldL 2 rfl _ rfl | exact H.ldL 3 rfl _ rfl | exact H.ldL 4 rfl _ rfl | exact H.ldL 5 rfl _ rfl | exact H.ldL 6 rfl _ rfl | exact H.ldL 7 rfl _ rfl | exact H.ld0 (by assumption) | assumption | exact H.ldS (by assumption) (by assumption))) ?_
    refine OPS.val rfl rfl rfl (Ev.geq rfl rfl) ?_
    refine OPS.val rfl rfl rfl (Ev.mvB rfl) ?_
    refine OPS.gval rfl rfl rfl rfl rfl (fun hg => Ev.mvI (by first | rfl | exact gvE hg rfl)) ?_
    refine OPS.gval rfl rfl rfl rfl rfl (fun hg => Ev.fieldAddr (fld_run rfl) (by first | rfl | exact gvE hg rfl)) ?_
    refine OPS.gval rfl rfl rfl rfl rfl (fun hg => Ev.load1 (agg_run rfl) (by first | rfl | exact gvE hg rfl) (by first | exact H.ldL 0 rfl _ rfl | exact H.ldL 1 rfl _ rfl | exact H.ldL 2 rfl _ rfl | exact H.ldL 3 rfl _ rfl | exact H.ldL 4 rfl _ rfl | exact H.ldL 5 rfl _ rfl | exact H.ldL 6 rfl _ rfl | exact H.ldL 7 rfl _ rfl | exact H.ld0 (by assumption) | assumption | exact H.ldS (by assumption) (by assumption))) ?_
    refine OPS.gval rfl rfl rfl rfl rfl (fun hg => Ev.len (el_run rfl) (by first | rfl | exact gvE hg rfl)) ?_
    refine OPS.gval rfl rfl rfl rfl rfl (fun hg => Ev.lss (by first | rfl | exact gvE hg rfl) (by first | rfl | exact gvE hg rfl)) ?_
    refine OPS.val rfl rfl rfl ((by first | exact Ev.pickOr rfl rfl rfl | exact Ev.pickAnd rfl rfl rfl)) ?_
    refine OPS.val rfl rfl rfl (Ev.mvB rfl) ?_
    refine OPS.gval rfl rfl rfl rfl rfl (fun hg => Ev.mvI (by first | rfl | exact gvE hg rfl)) ?_
    refine OPS.gval rfl rfl rfl rfl rfl (fun hg => Ev.fieldAddr (fld_run rfl) (by first | rfl | exact gvE hg rfl)) ?_
    refine OPS.gval rfl rfl rfl rfl rfl (fun hg => Ev.load1 (agg_run rfl) (by first | rfl | exact gvE hg rfl) (by first | exact H.ldL 0 rfl _ rfl | exact H.ldL 1 rfl _ rfl | exact H.ldL 2 rfl _ rfl | exact H.ldL 3 rfl _ rfl | exact H.ldL 4 rfl _ rfl | exact H.ldL 5 rfl _ rfl | exact H.ldL 6 rfl _ rfl | exact H.ldL 7 rfl _ rfl | exact H.ld0 (by assumption) | assumption | exact H.ldS (by assumption) (by assumption))) ?_
    refine OPS.gval rfl rfl rfl rfl rfl (fun hg => Ev.mvI (by first | rfl | exact gvE hg rfl)) ?_
    refine OPS.gval (v := .pointer (some ⟨b, o + (x.p.tdiv 32).toNat, none⟩)) rfl rfl rfl rfl rfl (fun hg => Ev.indexAddr1 (j := (x.p.tdiv 32).toNat) (el_run rfl) (size_run rfl) (by rw [← (hA hg).2.2.1]; exact gvE hg rfl) (gvE hg rfl) (by have := (hA hg).1; omega) (by have := (hA hg).2.1; have := (hA hg).1; omega)) ?_
    refine OPS.gval (v := I (f.ds.getD (x.p.tdiv 32).toNat 0)) rfl rfl rfl rfl rfl (fun hg => Ev.load1 (agg_run rfl) (gvE hg rfl) (H.ld0 (hA hg).2.2.2)) ?_
    refine OPS.gval rfl rfl rfl rfl rfl (fun hg => Ev.lss (by first | rfl | exact gvE hg rfl) (by first | rfl | exact gvE hg rfl)) ?_
    refine OPS.val rfl rfl rfl ((by first | exact Ev.pickOr rfl rfl rfl | exact Ev.pickAnd rfl rfl rfl)) ?_
    refine OPS.val rfl rfl rfl (Ev.asB rfl) ?_
    refine OPS.nil ?_
    refine WP.ret ⟨_, rfl, ?_⟩
    have h1 : x.k = 1 := by simpa using hc2
    exact ⟨by rw [plB, if_pos h1]; rfl, H.below⟩
  refine WP.seq ?_
  refine WP.region ?_
  refine OPS.val rfl rfl rfl (Ev.eql rfl rfl) ?_
  refine OPS.val rfl rfl rfl (Ev.asB rfl) ?_
  refine OPS.nil ?_
  refine WP.cond rfl (fun hc5 => ?_) (fun hc5 => ?_)
  · refine WP.seq ?_
    refine WP.region ?_
    refine OPS.val rfl rfl rfl (Ev.fieldAddr (fld_run rfl) rfl) ?_
    refine OPS.val rfl rfl rfl (Ev.load1 (agg_run rfl) rfl (by first | exact H.ldL 0 rfl _ rfl | exact H.ldL 1 rfl _ rfl | exact H.ldL 2 rfl _ rfl | exact H.ldL 3 rfl _ rfl | exact H.ldL 4 rfl _ rfl | exact H.ldL 5 rfl _ rfl | exact H.ldL 6 rfl _ rfl | exact H.ldL 7 rfl _ rfl | exact H.ld0 (by assumption) | assumption | exact H.ldS (by assumption) (by assumption))) ?_
    refine OPS.call (d := some 40) rfl rfl rfl (EvC.func (fun_run rfl)) (within x.p 0 63 _) ?_
    rintro _ w ⟨rfl, hb⟩
    refine ⟨_, rfl, ?_⟩
    replace H := H.toBelow hb; clear hb
    refine OPS.val rfl rfl rfl (Ev.asB rfl) ?_
    refine OPS.nil ?_
    refine WP.ret ⟨_, rfl, ?_⟩
    have h1 : ¬ x.k = 1 := by simpa using hc2
    have h2 : x.k = 2 := by simpa using hc5
    exact ⟨by rw [plB, if_neg h1, if_pos h2]; rfl, H.below⟩
  refine WP.seq ?_
  refine WP.region ?_
  refine OPS.val rfl rfl rfl (Ev.eql rfl rfl) ?_
  refine OPS.val rfl rfl rfl (Ev.asB rfl) ?_
  refine OPS.nil ?_
  refine WP.cond rfl (fun hc7 => ?_) (fun hc7 => ?_)
  · refine WP.seq ?_
    refine WP.region ?_
    refine OPS.val rfl rfl rfl (Ev.fieldAddr (fld_run rfl) rfl) ?_
    refine OPS.val rfl rfl rfl (Ev.load1 (agg_run rfl) rfl (by first | exact H.ldL 0 rfl _ rfl | exact H.ldL 1 rfl _ rfl | exact H.ldL 2 rfl _ rfl | exact H.ldL 3 rfl _ rfl | exact H.ldL 4 rfl _ rfl | exact H.ldL 5 rfl _ rfl | exact H.ldL 6 rfl _ rfl | exact H.ldL 7 rfl _ rfl | exact H.ld0 (by assumption) | assumption | exact H.ldS (by assumption) (by assumption))) ?_
    refine OPS.val rfl rfl rfl (Ev.fieldAddr (fld_run rfl) rfl) ?_
    refine OPS.val rfl rfl rfl (Ev.load1 (agg_run rfl) rfl (by first | exact H.ldL 0 rfl _ rfl | exact H.ldL 1 rfl _ rfl | exact H.ldL 2 rfl _ rfl | exact H.ldL 3 rfl _ rfl | exact H.ldL 4 rfl _ rfl | exact H.ldL 5 rfl _ rfl | exact H.ldL 6 rfl _ rfl | exact H.ldL 7 rfl _ rfl | exact H.ld0 (by assumption) | assumption | exact H.ldS (by assumption) (by assumption))) ?_
    refine OPS.val rfl rfl rfl (Ev.len (el_run rfl) rfl) ?_
    refine OPS.val rfl rfl rfl (Ev.sub rfl rfl (by unfold fits; omega)) ?_
    refine OPS.call (d := some 49) rfl rfl rfl (EvC.func (fun_run rfl)) (within x.p 0 ((f.ts.length : Int) - 1) _) ?_
    rintro _ w ⟨rfl, hb⟩
    refine ⟨_, rfl, ?_⟩
    replace H := H.toBelow hb; clear hb
    refine OPS.val rfl rfl rfl (Ev.asB rfl) ?_
    refine OPS.nil ?_
    refine WP.ret ⟨_, rfl, ?_⟩
    have h1 : ¬ x.k = 1 := by simpa using hc2
    have h2 : ¬ x.k = 2 := by simpa using hc5
    have h3 : x.k = 7 := by simpa using hc7
    exact ⟨by rw [plB, if_neg h1, if_neg h2, if_pos h3]; rfl, H.below⟩
  refine WP.skip ?_
  refine WP.seq ?_
  refine WP.region ?_
  refine OPS.val rfl rfl rfl (Ev.fieldAddr (fld_run rfl) rfl) ?_
  refine OPS.val rfl rfl rfl (Ev.load1 (agg_run rfl) rfl (by first | exact H.ldL 0 rfl _ rfl | exact H.ldL 1 rfl _ rfl | exact H.ldL 2 rfl _ rfl | exact H.ldL 3 rfl _ rfl | exact H.ldL 4 rfl _ rfl | exact H.ldL 5 rfl _ rfl | exact H.ldL 6 rfl _ rfl | exact H.ldL 7 rfl _ rfl | exact H.ld0 (by assumption) | assumption | exact H.ldS (by assumption) (by assumption))) ?_
  refine OPS.val rfl rfl rfl (Ev.eql rfl rfl) ?_
  refine OPS.val rfl rfl rfl (Ev.asB rfl) ?_
  refine OPS.nil ?_
  refine WP.ret ⟨_, rfl, ?_⟩
  have h1 : ¬ x.k = 1 := by simpa using hc2
  have h2 : ¬ x.k = 2 := by simpa using hc5
  have h3 : ¬ x.k = 7 := by simpa using hc7
  exact ⟨by rw [plB, if_neg h1, if_neg h2, if_neg h3]; rfl, H.below⟩
end Go.Proofs.Ytchjbjplddhknaa
