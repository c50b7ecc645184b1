/-
  Walks: placeAwake.
-/
import Derived.Test.YtchjbjplddhknaaW14
import Derived.Test.YtchjbjplddhknaaW33
import Derived.Test.YtchjbjplddhknaaW37
import Derived.Test.YtchjbjplddhknaaDFacts
set_option linter.all false
namespace Go.Proofs.Ytchjbjplddhknaa
open Go Go.W Go.RowKit

def e1 : Evt := ⟨0, 2, 20, 20, 7, 0, 0, 0, 0⟩
def e2 : Evt := ⟨0, 1, 10, 10, 2, 0, 3, 0, 0⟩
def f1 : Flt := ⟨1, 1, 1, [], [1]⟩
def s1 : Spt := ⟨2, 3, 0, false, 0⟩
def s2 : Spt := ⟨4, 0, 0, false, 0⟩
theorem a1 : addE 1 [] e1 = 0 := by decide
theorem l1' : addL 1 [] e1 = [e1] := by decide
theorem a2 : addE 1 [e1] e2 = 0 := by decide
theorem l2' : addL 1 [e1] e2 = [e1, e2] := by decide
theorem n2' : e2 ∉ [e1] := by decide
theorem ok12 : EvOk [e2, e1] := ⟨by decide, by decide⟩
theorem srt12 : [e1, e2].mergeSort evLe = [e2, e1] := sort_unique ok12.srt (List.Perm.swap _ _ _)
theorem up19 : upto 19 [e2, e1] = [e2] := by decide
theorem up20 : upto 20 [e2, e1] = [e2, e1] := by decide
theorem at19 : atS f1 [e2, e1] 0 19 = s1 := by
  rw [atS, if_pos (by decide), up19]
  decide
theorem at20 : atS f1 [e2, e1] 0 20 = s2 := by
  rw [atS, if_pos (by decide), up20]
  decide
theorem atE19 : atE f1 19 = 0 := by decide
theorem atE20 : atE f1 20 = 0 := by decide
theorem fit12 : ∀ x ∈ [e2, e1], fits x.p := by
  intro x hx
  simp only [List.mem_cons, List.not_mem_nil, or_false] at hx
  rcases hx with rfl | rfl <;> (unfold fits; decide)
theorem eqG42 : Try.prog.eqGuardType Try.prog.depth 42 = false := by kernel_rfl
theorem boolSelf (d : Nat) (a : Bool) (w : World) : (Op.equalIn (d + 1) 4 (.bool a) (.bool a)).run Try.prog w = .ok true w := by
  rw [Op.equalIn]
  simp only [Sem.run_bind, Try.runUnderlying4, Result.andThen_ok]
  simp [Sem.run_pure]
theorem eqS42 (s : Spt) : ∀ w, (Op.equal 42 (.agg (spC s).toArray) (.agg (spC s).toArray)).run Try.prog w = .ok true w := by
  intro w
  have hs : Try.prog.stoodInHeld 42 = false := by kernel_rfl
  unfold Op.equal Op.maxDepth
  rw [Op.equalIn]
  simp only [Sem.run_bind, Try.runUnderlying42, Result.andThen_ok, prog_run, hs]
  simp [part, spC, Try.isAgg3, Try.isAgg4, Sem.run_bind, Sem.run_pure, intEq, boolSelf]
theorem placeAwake (w0 : World) : Calls Try.prog 5 #[] w0 fun e w' => e = .returned (.bool true) ∧ SH w0 [] w' [] := by
  have H := SH.refl w0
  refine Calls.ofWP Try.func5 rfl Try.results5 Try.ntmps5 rfl ?_
  refine WP.seq ?_
  refine WP.region ?_
  refine OPS.val rfl rfl rfl (Ev.asB rfl) ?_
  refine OPS.nil ?_
  refine WP.seq ?_
  refine WP.region ?_
  refine OPS.buildSlice rfl rfl rfl rfl (bsl_22_1_0 rfl) H ?_
  clear H; intro g10 w H
  refine OPS.val rfl rfl rfl (Ev.build (bld_24_0_1_2_4 rfl rfl rfl rfl)) ?_
  refine OPS.alloc rfl rfl rfl rfl (zero_run rfl) rfl H ?_
  clear H; intro g1 w H
  first | refine OPS.store 0 _ rfl rfl rfl (size_run rfl) rfl (cA rfl) rfl rfl H rfl (by simp) ?_ | refine OPS.store 1 _ rfl rfl rfl (size_run rfl) rfl (cA rfl) rfl rfl H rfl (by simp) ?_ | refine OPS.store 2 _ rfl rfl rfl (size_run rfl) rfl (cA rfl) rfl rfl H rfl (by simp) ?_ | refine OPS.store 3 _ rfl rfl rfl (size_run rfl) rfl (cA rfl) rfl rfl H rfl (by simp) ?_ | refine OPS.store 4 _ rfl rfl rfl (size_run rfl) rfl (cA rfl) rfl rfl H rfl (by simp) ?_ | refine OPS.store 5 _ rfl rfl rfl (size_run rfl) rfl (cA rfl) rfl rfl H rfl (by simp) ?_ | refine OPS.store 6 _ rfl rfl rfl (size_run rfl) rfl (cA rfl) rfl rfl H rfl (by simp) ?_ | refine OPS.store 7 _ rfl rfl rfl (size_run rfl) rfl (cA rfl) rfl rfl H rfl (by simp) ?_ | refine OPS.store 8 _ rfl rfl rfl (size_run rfl) rfl (cA rfl) rfl rfl H rfl (by simp) ?_
  clear H; intro w H; try simp only [List.set_cons_zero, List.set_cons_succ, putL, Nat.zero_add] at H
  refine OPS.nil ?_
  replace H : SH w0 [] w [(⟨g1, 24, flC f1 none 0 (some ⟨g10, 0, none⟩) 1⟩ : Blk), ⟨g10, 3, [I 1]⟩] := H
  have hsz := H.size
  have hcall := (gossipNew 1 w).mono (R' := fun e w' => ∃ g m, e = .returned (.tuple #[.pointer (some ⟨g, 0, none⟩), I 0]) ∧ w.heap.size ≤ m ∧ MapAt Try.prog 78 w' m [] ∧ SH w [] w' [⟨g, 61, [I 1, .map (some m)]⟩]) (fun e w' h => by
    rcases h with ⟨h, _⟩ | ⟨_, h⟩
    · omega
    · exact h)
  refine WP.seq ?_
  refine WP.region ?_
  refine OPS.call (d := some 13) rfl rfl rfl (EvC.func (fun_run rfl)) (hcall) ?_
  rintro _ w ⟨gR, gM, rfl, hm, M, Hc⟩
  refine ⟨_, rfl, ?_⟩
  have hR : RepR w 1 gR gM [] := ⟨Hc.own ⟨gR, 61, [I 1, .map (some gM)]⟩ (by simp), M, by simp⟩
  have hfr : w0.heap.size ≤ gM := by omega
  replace H := H.toBelow Hc.below
  refine OPS.val rfl rfl rfl (Ev.mvT rfl) ?_
  refine OPS.val rfl rfl rfl (Ev.extract rfl rfl) ?_
  refine OPS.val rfl rfl rfl (Ev.extract rfl rfl) ?_
  refine OPS.val rfl rfl rfl (Ev.asP rfl) ?_
  refine OPS.val rfl rfl rfl (Ev.asI rfl) ?_
  refine OPS.nil ?_
  refine WP.seq ?_
  refine WP.seq ?_
  refine WP.region ?_
  refine OPS.val rfl rfl rfl (Ev.mvP rfl) ?_
  refine OPS.val rfl rfl rfl (Ev.eqlPn Try.runUnderlying29 rfl rfl) ?_
  refine OPS.val rfl rfl rfl (Ev.mvB rfl) ?_
  refine OPS.gval rfl rfl rfl rfl rfl (fun hg => Ev.mvI (by first | rfl | exact gvE hg rfl)) ?_
  refine OPS.gval rfl rfl rfl rfl rfl (fun hg => Ev.neq (by first | rfl | exact gvE hg rfl) (by first | rfl | exact gvE hg rfl)) ?_
  refine OPS.val rfl rfl rfl ((by first | exact Ev.pickOr rfl rfl rfl | exact Ev.pickAnd rfl rfl rfl)) ?_
  refine OPS.nil ?_
  refine WP.cond rfl (fun hc3 => ?_) (fun hc3 => ?_)
  · refine WP.seq ?_
    simp at hc3
  refine WP.skip ?_
  refine WP.seq ?_
  refine WP.region ?_
  refine OPS.val rfl rfl rfl (Ev.mvP rfl) ?_
  refine OPS.val rfl rfl rfl (Ev.build (bld_56_1_2_3_4 rfl rfl rfl rfl)) ?_
  refine OPS.call (d := some 24) rfl rfl rfl (EvC.func (fun_run rfl)) (by have h := addR 1 (by decide) gR gM [] e1 w hR (by simp); rw [l1'] at h; exact h) ?_
  rintro _ w ⟨rfl, Hc, hR2⟩
  refine ⟨_, rfl, ?_⟩
  have H2 := SH.back H Hc (fun g hg => by
    have hg : g = gM := by simpa using hg
    subst hg
    exact ⟨.inl hfr, hR.mp.notMem H⟩)
  rw [List.nil_append] at H2
  clear H; have H := H2; clear H2
  replace hR := hR2
  have hcall2 := addR 1 (by decide) gR gM [e1] e2 w hR (by simp)
  rw [show decide (addE 1 [e1] e2 = 0 ∧ e2 ∉ [e1]) = true by decide, a2, l2'] at hcall2
  refine OPS.nil ?_
  refine WP.seq ?_
  refine WP.region ?_
  refine OPS.val rfl rfl rfl (Ev.mvP rfl) ?_
  refine OPS.val rfl rfl rfl (Ev.build (bld_56_1_2_3_4_6 rfl rfl rfl rfl rfl)) ?_
  refine OPS.call (d := some 28) rfl rfl rfl (EvC.func (fun_run rfl)) (hcall2) ?_
  rintro _ w ⟨rfl, Hc, hR2⟩
  refine ⟨_, rfl, ?_⟩
  have H2 := SH.back H Hc (fun g hg => by
    have hg : g = gM := by simpa using hg
    subst hg
    exact ⟨.inl hfr, hR.mp.notMem H⟩)
  rw [List.nil_append] at H2
  clear H; have H := H2; clear H2
  replace hR := hR2
  refine OPS.val rfl rfl rfl (Ev.mvT rfl) ?_
  refine OPS.val rfl rfl rfl (Ev.extract rfl rfl) ?_
  refine OPS.val rfl rfl rfl (Ev.extract rfl rfl) ?_
  refine OPS.val rfl rfl rfl (Ev.asB rfl) ?_
  refine OPS.val rfl rfl rfl (Ev.asI rfl) ?_
  refine OPS.nil ?_
  refine WP.seq ?_
  obtain ⟨wS7, rfl⟩ : ∃ x, x = w := ⟨_, rfl⟩
  have HB7 := H
  have hoff7 := hR.off H (by simp)
  replace H := H.restart (List.Sublist.refl _)
  refine WP.rheldC [6, 7, 31, 32, 33, 34, 35, 36, 37] (fun u w' => ∃ g6, u 6 = .pointer (some ⟨g6, 0, none⟩) ∧ u 7 = I 0 ∧ SH wS7 ([(⟨g1, 24, flC f1 none 0 (some ⟨g10, 0, none⟩) 1⟩ : Blk), ⟨g10, 3, [I 1]⟩].map (·.g)) w' (⟨g6, 42, spC s1⟩ :: [(⟨g1, 24, flC f1 none 0 (some ⟨g10, 0, none⟩) 1⟩ : Blk), ⟨g10, 3, [I 1]⟩])) mixed H ?_ ?_
  · clear H; intro w hbw7 H
    refine OPH.take 0 rfl rfl rfl rfl (by kernel_rfl) (by kernel_rfl) (by kernel_rfl) rfl (by first | exact H | exact H.drop (List.sublist_cons_self _ _) | exact H.drop ((List.sublist_cons_self _ _).trans (List.sublist_cons_self _ _)) | exact H.drop ((List.sublist_cons_self _ _).trans ((List.sublist_cons_self _ _).trans (List.sublist_cons_self _ _))) | exact H.drop ((List.sublist_cons_self _ _).trans ((List.sublist_cons_self _ _).trans ((List.sublist_cons_self _ _).trans (List.sublist_cons_self _ _)))) | exact H.drop ((List.sublist_cons_self _ _).trans ((List.sublist_cons_self _ _).trans ((List.sublist_cons_self _ _).trans ((List.sublist_cons_self _ _).trans (List.sublist_cons_self _ _)))))) (fun w H => (by first | exact Ev.loadO 0 H rfl (agg_run rfl) (size_run rfl) (by first | assumption | rfl) rfl | exact Ev.loadO 1 H rfl (agg_run rfl) (size_run rfl) (by first | assumption | rfl) rfl | exact Ev.loadO 2 H rfl (agg_run rfl) (size_run rfl) (by first | assumption | rfl) rfl | exact Ev.loadO 3 H rfl (agg_run rfl) (size_run rfl) (by first | assumption | rfl) rfl | exact Ev.loadO 4 H rfl (agg_run rfl) (size_run rfl) (by first | assumption | rfl) rfl | exact Ev.loadO 5 H rfl (agg_run rfl) (size_run rfl) (by first | assumption | rfl) rfl | exact Ev.loadO 6 H rfl (agg_run rfl) (size_run rfl) (by first | assumption | rfl) rfl | (change Ev _ _ _ _ (Op.load 24 (Operand.tmp 1)) _; fail))) ?_
    refine OPH.take 1 rfl rfl rfl rfl (by kernel_rfl) (by kernel_rfl) (by kernel_rfl) rfl (by first | exact H | exact H.drop (List.sublist_cons_self _ _) | exact H.drop ((List.sublist_cons_self _ _).trans (List.sublist_cons_self _ _)) | exact H.drop ((List.sublist_cons_self _ _).trans ((List.sublist_cons_self _ _).trans (List.sublist_cons_self _ _))) | exact H.drop ((List.sublist_cons_self _ _).trans ((List.sublist_cons_self _ _).trans ((List.sublist_cons_self _ _).trans (List.sublist_cons_self _ _)))) | exact H.drop ((List.sublist_cons_self _ _).trans ((List.sublist_cons_self _ _).trans ((List.sublist_cons_self _ _).trans ((List.sublist_cons_self _ _).trans (List.sublist_cons_self _ _)))))) (fun w H => Ev.mvP rfl) ?_
    refine OPH.all [2, 7] (by kernel_rfl) (by simp) rfl ?_
    intro i hi; simp only [List.mem_cons, List.not_mem_nil, or_false] at hi
    rcases hi with rfl | rfl
    · refine ⟨_, rfl, ?_⟩
      refine OPS.call (d := some 34) rfl rfl rfl (EvC.func (fun_run rfl)) (events 1 gR gM [e1, e2] w (hR.sh H hoff7.1 hoff7.2) (by simp)) ?_
      rintro _ w ⟨A, c, Lo, rfl, hO, Hc⟩
      refine ⟨_, rfl, ?_⟩
      replace H := H.toBelow Hc.below
      rw [srt12] at hO
      have hrow : RowsAt 9 evC w A [e2, e1] := OwnS.rowsE (es := [e2, e1]) hO Hc (fun b hb => hb)
      have hAc : A = none → c = 0 := by
        rintro rfl
        rcases hO.form with ⟨_, _, h, _⟩ | ⟨_, _, h, _⟩
        · exact h
        · cases h
      refine OPS.nil ?_
      refine ⟨(by first | exact H | exact H.drop (List.sublist_cons_self _ _) | exact H.drop ((List.sublist_cons_self _ _).trans (List.sublist_cons_self _ _)) | exact H.drop ((List.sublist_cons_self _ _).trans ((List.sublist_cons_self _ _).trans (List.sublist_cons_self _ _))) | exact H.drop ((List.sublist_cons_self _ _).trans ((List.sublist_cons_self _ _).trans ((List.sublist_cons_self _ _).trans (List.sublist_cons_self _ _)))) | exact H.drop ((List.sublist_cons_self _ _).trans ((List.sublist_cons_self _ _).trans ((List.sublist_cons_self _ _).trans ((List.sublist_cons_self _ _).trans (List.sublist_cons_self _ _)))))), ?_⟩
      refine OPH.all [3, 7] (by kernel_rfl) (by simp) rfl ?_
      intro i hi; simp only [List.mem_cons, List.not_mem_nil, or_false] at hi
      rcases hi with rfl | rfl
      · refine ⟨_, rfl, ?_⟩
        have hfa : FlAt w f1 none (some ⟨g10, 0, none⟩) := ⟨OnesAt.nil, by first | exact onesOwn (l := [(1 : Int)]) H 1 rfl | exact onesOwn (l := [(1 : Int)]) H 2 rfl | exact onesOwn (l := [(1 : Int)]) H 3 rfl, by decide, by decide⟩
        have hcall := custAt f1 0 (by decide) 19 none 0 (some ⟨g10, 0, none⟩) 1 A [e2, e1] c w hfa hrow ok12 fit12 (by simp) hAc
        rw [at19, atE19] at hcall
        refine OPS.call (d := some 35) rfl rfl rfl (EvC.func (fun_run rfl)) hcall ?_
        rintro _ w ⟨rfl, Hc⟩
        refine ⟨_, rfl, ?_⟩
        replace H := H.toBelow Hc.below
        refine OPS.nil ?_
        refine ⟨(by first | exact H | exact H.drop (List.sublist_cons_self _ _) | exact H.drop ((List.sublist_cons_self _ _).trans (List.sublist_cons_self _ _)) | exact H.drop ((List.sublist_cons_self _ _).trans ((List.sublist_cons_self _ _).trans (List.sublist_cons_self _ _))) | exact H.drop ((List.sublist_cons_self _ _).trans ((List.sublist_cons_self _ _).trans ((List.sublist_cons_self _ _).trans (List.sublist_cons_self _ _)))) | exact H.drop ((List.sublist_cons_self _ _).trans ((List.sublist_cons_self _ _).trans ((List.sublist_cons_self _ _).trans ((List.sublist_cons_self _ _).trans (List.sublist_cons_self _ _)))))), ?_⟩
        refine OPH.take 4 rfl rfl rfl rfl (by kernel_rfl) (by kernel_rfl) (by kernel_rfl) rfl (by first | exact H | exact H.drop (List.sublist_cons_self _ _) | exact H.drop ((List.sublist_cons_self _ _).trans (List.sublist_cons_self _ _)) | exact H.drop ((List.sublist_cons_self _ _).trans ((List.sublist_cons_self _ _).trans (List.sublist_cons_self _ _))) | exact H.drop ((List.sublist_cons_self _ _).trans ((List.sublist_cons_self _ _).trans ((List.sublist_cons_self _ _).trans (List.sublist_cons_self _ _)))) | exact H.drop ((List.sublist_cons_self _ _).trans ((List.sublist_cons_self _ _).trans ((List.sublist_cons_self _ _).trans ((List.sublist_cons_self _ _).trans (List.sublist_cons_self _ _)))))) (fun w H => Ev.mvT rfl) ?_
        refine OPH.take 5 rfl rfl rfl rfl (by kernel_rfl) (by kernel_rfl) (by kernel_rfl) rfl (by first | exact H | exact H.drop (List.sublist_cons_self _ _) | exact H.drop ((List.sublist_cons_self _ _).trans (List.sublist_cons_self _ _)) | exact H.drop ((List.sublist_cons_self _ _).trans ((List.sublist_cons_self _ _).trans (List.sublist_cons_self _ _))) | exact H.drop ((List.sublist_cons_self _ _).trans ((List.sublist_cons_self _ _).trans ((List.sublist_cons_self _ _).trans (List.sublist_cons_self _ _)))) | exact H.drop ((List.sublist_cons_self _ _).trans ((List.sublist_cons_self _ _).trans ((List.sublist_cons_self _ _).trans ((List.sublist_cons_self _ _).trans (List.sublist_cons_self _ _)))))) (fun w H => Ev.extract rfl rfl) ?_
        refine OPH.take 6 rfl rfl rfl rfl (by kernel_rfl) (by kernel_rfl) (by kernel_rfl) rfl (by first | exact H | exact H.drop (List.sublist_cons_self _ _) | exact H.drop ((List.sublist_cons_self _ _).trans (List.sublist_cons_self _ _)) | exact H.drop ((List.sublist_cons_self _ _).trans ((List.sublist_cons_self _ _).trans (List.sublist_cons_self _ _))) | exact H.drop ((List.sublist_cons_self _ _).trans ((List.sublist_cons_self _ _).trans ((List.sublist_cons_self _ _).trans (List.sublist_cons_self _ _)))) | exact H.drop ((List.sublist_cons_self _ _).trans ((List.sublist_cons_self _ _).trans ((List.sublist_cons_self _ _).trans ((List.sublist_cons_self _ _).trans (List.sublist_cons_self _ _)))))) (fun w H => Ev.extract rfl rfl) ?_
        refine OPH.all [7] (by kernel_rfl) (by simp) rfl ?_
        intro i hi; simp only [List.mem_cons, List.not_mem_nil, or_false] at hi
        rcases hi with rfl
        · refine ⟨_, rfl, ?_⟩
          refine OPS.allocB rfl rfl rfl rfl (zero_run rfl) rfl H ?_
          clear H; intro g6 w hba H
          (try replace hrow := hrow.below hba)
          refine OPS.nil ?_
          refine ⟨(by first | exact H | exact H.drop (List.sublist_cons_self _ _) | exact H.drop ((List.sublist_cons_self _ _).trans (List.sublist_cons_self _ _)) | exact H.drop ((List.sublist_cons_self _ _).trans ((List.sublist_cons_self _ _).trans (List.sublist_cons_self _ _))) | exact H.drop ((List.sublist_cons_self _ _).trans ((List.sublist_cons_self _ _).trans ((List.sublist_cons_self _ _).trans (List.sublist_cons_self _ _)))) | exact H.drop ((List.sublist_cons_self _ _).trans ((List.sublist_cons_self _ _).trans ((List.sublist_cons_self _ _).trans ((List.sublist_cons_self _ _).trans (List.sublist_cons_self _ _)))))), ?_⟩
          refine OPH.all [8] (by kernel_rfl) (by simp) rfl ?_
          intro i hi; simp only [List.mem_cons, List.not_mem_nil, or_false] at hi
          rcases hi with rfl
          · refine ⟨_, rfl, ?_⟩
            first | refine OPS.store 0 _ rfl rfl rfl (size_run rfl) rfl (cA rfl) rfl rfl H rfl (by simp) ?_ | refine OPS.store 1 _ rfl rfl rfl (size_run rfl) rfl (cA rfl) rfl rfl H rfl (by simp) ?_ | refine OPS.store 2 _ rfl rfl rfl (size_run rfl) rfl (cA rfl) rfl rfl H rfl (by simp) ?_ | refine OPS.store 3 _ rfl rfl rfl (size_run rfl) rfl (cA rfl) rfl rfl H rfl (by simp) ?_ | refine OPS.store 4 _ rfl rfl rfl (size_run rfl) rfl (cA rfl) rfl rfl H rfl (by simp) ?_ | refine OPS.store 5 _ rfl rfl rfl (size_run rfl) rfl (cA rfl) rfl rfl H rfl (by simp) ?_ | refine OPS.store 6 _ rfl rfl rfl (size_run rfl) rfl (cA rfl) rfl rfl H rfl (by simp) ?_ | refine OPS.store 7 _ rfl rfl rfl (size_run rfl) rfl (cA rfl) rfl rfl H rfl (by simp) ?_ | refine OPS.store 8 _ rfl rfl rfl (size_run rfl) rfl (cA rfl) rfl rfl H rfl (by simp) ?_
            clear H; intro w H; try simp only [List.set_cons_zero, List.set_cons_succ, putL, Nat.zero_add] at H
            refine OPS.nil ?_
            refine ⟨(by first | exact H | exact H.drop (List.sublist_cons_self _ _) | exact H.drop ((List.sublist_cons_self _ _).trans (List.sublist_cons_self _ _)) | exact H.drop ((List.sublist_cons_self _ _).trans ((List.sublist_cons_self _ _).trans (List.sublist_cons_self _ _))) | exact H.drop ((List.sublist_cons_self _ _).trans ((List.sublist_cons_self _ _).trans ((List.sublist_cons_self _ _).trans (List.sublist_cons_self _ _)))) | exact H.drop ((List.sublist_cons_self _ _).trans ((List.sublist_cons_self _ _).trans ((List.sublist_cons_self _ _).trans ((List.sublist_cons_self _ _).trans (List.sublist_cons_self _ _)))))), ?_⟩
            refine OPH.take 9 rfl rfl rfl rfl (by kernel_rfl) (by kernel_rfl) (by kernel_rfl) rfl (by first | exact H | exact H.drop (List.sublist_cons_self _ _) | exact H.drop ((List.sublist_cons_self _ _).trans (List.sublist_cons_self _ _)) | exact H.drop ((List.sublist_cons_self _ _).trans ((List.sublist_cons_self _ _).trans (List.sublist_cons_self _ _))) | exact H.drop ((List.sublist_cons_self _ _).trans ((List.sublist_cons_self _ _).trans ((List.sublist_cons_self _ _).trans (List.sublist_cons_self _ _)))) | exact H.drop ((List.sublist_cons_self _ _).trans ((List.sublist_cons_self _ _).trans ((List.sublist_cons_self _ _).trans ((List.sublist_cons_self _ _).trans (List.sublist_cons_self _ _)))))) (fun w H => Ev.asI rfl) ?_
            refine OPH.done (by kernel_rfl) ?_
            exact ⟨(by repeat (first | exact Agree.refl _ _ | exact Agree.mix _ _ _ | refine Agree.upd rfl ?_ | refine Agree.mix2 rfl ?_)), g6, rfl, rfl, H⟩
      · refine ⟨_, rfl, ?_⟩
        refine OPS.allocB rfl rfl rfl rfl (zero_run rfl) rfl H ?_
        clear H; intro g6 w hba H
        (try replace hrow := hrow.below hba)
        refine OPS.nil ?_
        refine ⟨(by first | exact H | exact H.drop (List.sublist_cons_self _ _) | exact H.drop ((List.sublist_cons_self _ _).trans (List.sublist_cons_self _ _)) | exact H.drop ((List.sublist_cons_self _ _).trans ((List.sublist_cons_self _ _).trans (List.sublist_cons_self _ _))) | exact H.drop ((List.sublist_cons_self _ _).trans ((List.sublist_cons_self _ _).trans ((List.sublist_cons_self _ _).trans (List.sublist_cons_self _ _)))) | exact H.drop ((List.sublist_cons_self _ _).trans ((List.sublist_cons_self _ _).trans ((List.sublist_cons_self _ _).trans ((List.sublist_cons_self _ _).trans (List.sublist_cons_self _ _)))))), ?_⟩
        refine OPH.all [3] (by kernel_rfl) (by simp) rfl ?_
        intro i hi; simp only [List.mem_cons, List.not_mem_nil, or_false] at hi
        rcases hi with rfl
        · refine ⟨_, rfl, ?_⟩
          have hfa : FlAt w f1 none (some ⟨g10, 0, none⟩) := ⟨OnesAt.nil, by first | exact onesOwn (l := [(1 : Int)]) H 1 rfl | exact onesOwn (l := [(1 : Int)]) H 2 rfl | exact onesOwn (l := [(1 : Int)]) H 3 rfl, by decide, by decide⟩
          have hcall := custAt f1 0 (by decide) 19 none 0 (some ⟨g10, 0, none⟩) 1 A [e2, e1] c w hfa hrow ok12 fit12 (by simp) hAc
          rw [at19, atE19] at hcall
          refine OPS.call (d := some 35) rfl rfl rfl (EvC.func (fun_run rfl)) hcall ?_
          rintro _ w ⟨rfl, Hc⟩
          refine ⟨_, rfl, ?_⟩
          replace H := H.toBelow Hc.below
          refine OPS.nil ?_
          refine ⟨(by first | exact H | exact H.drop (List.sublist_cons_self _ _) | exact H.drop ((List.sublist_cons_self _ _).trans (List.sublist_cons_self _ _)) | exact H.drop ((List.sublist_cons_self _ _).trans ((List.sublist_cons_self _ _).trans (List.sublist_cons_self _ _))) | exact H.drop ((List.sublist_cons_self _ _).trans ((List.sublist_cons_self _ _).trans ((List.sublist_cons_self _ _).trans (List.sublist_cons_self _ _)))) | exact H.drop ((List.sublist_cons_self _ _).trans ((List.sublist_cons_self _ _).trans ((List.sublist_cons_self _ _).trans ((List.sublist_cons_self _ _).trans (List.sublist_cons_self _ _)))))), ?_⟩
          refine OPH.take 4 rfl rfl rfl rfl (by kernel_rfl) (by kernel_rfl) (by kernel_rfl) rfl (by first | exact H | exact H.drop (List.sublist_cons_self _ _) | exact H.drop ((List.sublist_cons_self _ _).trans (List.sublist_cons_self _ _)) | exact H.drop ((List.sublist_cons_self _ _).trans ((List.sublist_cons_self _ _).trans (List.sublist_cons_self _ _))) | exact H.drop ((List.sublist_cons_self _ _).trans ((List.sublist_cons_self _ _).trans ((List.sublist_cons_self _ _).trans (List.sublist_cons_self _ _)))) | exact H.drop ((List.sublist_cons_self _ _).trans ((List.sublist_cons_self _ _).trans ((List.sublist_cons_self _ _).trans ((List.sublist_cons_self _ _).trans (List.sublist_cons_self _ _)))))) (fun w H => Ev.mvT rfl) ?_
          refine OPH.take 5 rfl rfl rfl rfl (by kernel_rfl) (by kernel_rfl) (by kernel_rfl) rfl (by first | exact H | exact H.drop (List.sublist_cons_self _ _) | exact H.drop ((List.sublist_cons_self _ _).trans (List.sublist_cons_self _ _)) | exact H.drop ((List.sublist_cons_self _ _).trans ((List.sublist_cons_self _ _).trans (List.sublist_cons_self _ _))) | exact H.drop ((List.sublist_cons_self _ _).trans ((List.sublist_cons_self _ _).trans ((List.sublist_cons_self _ _).trans (List.sublist_cons_self _ _)))) | exact H.drop ((List.sublist_cons_self _ _).trans ((List.sublist_cons_self _ _).trans ((List.sublist_cons_self _ _).trans ((List.sublist_cons_self _ _).trans (List.sublist_cons_self _ _)))))) (fun w H => Ev.extract rfl rfl) ?_
          refine OPH.take 6 rfl rfl rfl rfl (by kernel_rfl) (by kernel_rfl) (by kernel_rfl) rfl (by first | exact H | exact H.drop (List.sublist_cons_self _ _) | exact H.drop ((List.sublist_cons_self _ _).trans (List.sublist_cons_self _ _)) | exact H.drop ((List.sublist_cons_self _ _).trans ((List.sublist_cons_self _ _).trans (List.sublist_cons_self _ _))) | exact H.drop ((List.sublist_cons_self _ _).trans ((List.sublist_cons_self _ _).trans ((List.sublist_cons_self _ _).trans (List.sublist_cons_self _ _)))) | exact H.drop ((List.sublist_cons_self _ _).trans ((List.sublist_cons_self _ _).trans ((List.sublist_cons_self _ _).trans ((List.sublist_cons_self _ _).trans (List.sublist_cons_self _ _)))))) (fun w H => Ev.extract rfl rfl) ?_
          refine OPH.all [8] (by kernel_rfl) (by simp) rfl ?_
          intro i hi; simp only [List.mem_cons, List.not_mem_nil, or_false] at hi
          rcases hi with rfl
          · refine ⟨_, rfl, ?_⟩
            first | refine OPS.store 0 _ rfl rfl rfl (size_run rfl) rfl (cA rfl) rfl rfl H rfl (by simp) ?_ | refine OPS.store 1 _ rfl rfl rfl (size_run rfl) rfl (cA rfl) rfl rfl H rfl (by simp) ?_ | refine OPS.store 2 _ rfl rfl rfl (size_run rfl) rfl (cA rfl) rfl rfl H rfl (by simp) ?_ | refine OPS.store 3 _ rfl rfl rfl (size_run rfl) rfl (cA rfl) rfl rfl H rfl (by simp) ?_ | refine OPS.store 4 _ rfl rfl rfl (size_run rfl) rfl (cA rfl) rfl rfl H rfl (by simp) ?_ | refine OPS.store 5 _ rfl rfl rfl (size_run rfl) rfl (cA rfl) rfl rfl H rfl (by simp) ?_ | refine OPS.store 6 _ rfl rfl rfl (size_run rfl) rfl (cA rfl) rfl rfl H rfl (by simp) ?_ | refine OPS.store 7 _ rfl rfl rfl (size_run rfl) rfl (cA rfl) rfl rfl H rfl (by simp) ?_ | refine OPS.store 8 _ rfl rfl rfl (size_run rfl) rfl (cA rfl) rfl rfl H rfl (by simp) ?_
            clear H; intro w H; try simp only [List.set_cons_zero, List.set_cons_succ, putL, Nat.zero_add] at H
            refine OPS.nil ?_
            refine ⟨(by first | exact H | exact H.drop (List.sublist_cons_self _ _) | exact H.drop ((List.sublist_cons_self _ _).trans (List.sublist_cons_self _ _)) | exact H.drop ((List.sublist_cons_self _ _).trans ((List.sublist_cons_self _ _).trans (List.sublist_cons_self _ _))) | exact H.drop ((List.sublist_cons_self _ _).trans ((List.sublist_cons_self _ _).trans ((List.sublist_cons_self _ _).trans (List.sublist_cons_self _ _)))) | exact H.drop ((List.sublist_cons_self _ _).trans ((List.sublist_cons_self _ _).trans ((List.sublist_cons_self _ _).trans ((List.sublist_cons_self _ _).trans (List.sublist_cons_self _ _)))))), ?_⟩
            refine OPH.take 9 rfl rfl rfl rfl (by kernel_rfl) (by kernel_rfl) (by kernel_rfl) rfl (by first | exact H | exact H.drop (List.sublist_cons_self _ _) | exact H.drop ((List.sublist_cons_self _ _).trans (List.sublist_cons_self _ _)) | exact H.drop ((List.sublist_cons_self _ _).trans ((List.sublist_cons_self _ _).trans (List.sublist_cons_self _ _))) | exact H.drop ((List.sublist_cons_self _ _).trans ((List.sublist_cons_self _ _).trans ((List.sublist_cons_self _ _).trans (List.sublist_cons_self _ _)))) | exact H.drop ((List.sublist_cons_self _ _).trans ((List.sublist_cons_self _ _).trans ((List.sublist_cons_self _ _).trans ((List.sublist_cons_self _ _).trans (List.sublist_cons_self _ _)))))) (fun w H => Ev.asI rfl) ?_
            refine OPH.done (by kernel_rfl) ?_
            exact ⟨(by repeat (first | exact Agree.refl _ _ | exact Agree.mix _ _ _ | refine Agree.upd rfl ?_ | refine Agree.mix2 rfl ?_)), g6, rfl, rfl, H⟩
    · refine ⟨_, rfl, ?_⟩
      refine OPS.allocB rfl rfl rfl rfl (zero_run rfl) rfl H ?_
      clear H; intro g6 w hba H
      (try replace hrow := hrow.below hba)
      refine OPS.nil ?_
      refine ⟨(by first | exact H | exact H.drop (List.sublist_cons_self _ _) | exact H.drop ((List.sublist_cons_self _ _).trans (List.sublist_cons_self _ _)) | exact H.drop ((List.sublist_cons_self _ _).trans ((List.sublist_cons_self _ _).trans (List.sublist_cons_self _ _))) | exact H.drop ((List.sublist_cons_self _ _).trans ((List.sublist_cons_self _ _).trans ((List.sublist_cons_self _ _).trans (List.sublist_cons_self _ _)))) | exact H.drop ((List.sublist_cons_self _ _).trans ((List.sublist_cons_self _ _).trans ((List.sublist_cons_self _ _).trans ((List.sublist_cons_self _ _).trans (List.sublist_cons_self _ _)))))), ?_⟩
      refine OPH.all [2] (by kernel_rfl) (by simp) rfl ?_
      intro i hi; simp only [List.mem_cons, List.not_mem_nil, or_false] at hi
      rcases hi with rfl
      · refine ⟨_, rfl, ?_⟩
        refine OPS.call (d := some 34) rfl rfl rfl (EvC.func (fun_run rfl)) (events 1 gR gM [e1, e2] w (hR.sh H hoff7.1 hoff7.2) (by simp)) ?_
        rintro _ w ⟨A, c, Lo, rfl, hO, Hc⟩
        refine ⟨_, rfl, ?_⟩
        replace H := H.toBelow Hc.below
        rw [srt12] at hO
        have hrow : RowsAt 9 evC w A [e2, e1] := OwnS.rowsE (es := [e2, e1]) hO Hc (fun b hb => hb)
        have hAc : A = none → c = 0 := by
          rintro rfl
          rcases hO.form with ⟨_, _, h, _⟩ | ⟨_, _, h, _⟩
          · exact h
          · cases h
        refine OPS.nil ?_
        refine ⟨(by first | exact H | exact H.drop (List.sublist_cons_self _ _) | exact H.drop ((List.sublist_cons_self _ _).trans (List.sublist_cons_self _ _)) | exact H.drop ((List.sublist_cons_self _ _).trans ((List.sublist_cons_self _ _).trans (List.sublist_cons_self _ _))) | exact H.drop ((List.sublist_cons_self _ _).trans ((List.sublist_cons_self _ _).trans ((List.sublist_cons_self _ _).trans (List.sublist_cons_self _ _)))) | exact H.drop ((List.sublist_cons_self _ _).trans ((List.sublist_cons_self _ _).trans ((List.sublist_cons_self _ _).trans ((List.sublist_cons_self _ _).trans (List.sublist_cons_self _ _)))))), ?_⟩
        refine OPH.all [3] (by kernel_rfl) (by simp) rfl ?_
        intro i hi; simp only [List.mem_cons, List.not_mem_nil, or_false] at hi
        rcases hi with rfl
        · refine ⟨_, rfl, ?_⟩
          have hfa : FlAt w f1 none (some ⟨g10, 0, none⟩) := ⟨OnesAt.nil, by first | exact onesOwn (l := [(1 : Int)]) H 1 rfl | exact onesOwn (l := [(1 : Int)]) H 2 rfl | exact onesOwn (l := [(1 : Int)]) H 3 rfl, by decide, by decide⟩
          have hcall := custAt f1 0 (by decide) 19 none 0 (some ⟨g10, 0, none⟩) 1 A [e2, e1] c w hfa hrow ok12 fit12 (by simp) hAc
          rw [at19, atE19] at hcall
          refine OPS.call (d := some 35) rfl rfl rfl (EvC.func (fun_run rfl)) hcall ?_
          rintro _ w ⟨rfl, Hc⟩
          refine ⟨_, rfl, ?_⟩
          replace H := H.toBelow Hc.below
          refine OPS.nil ?_
          refine ⟨(by first | exact H | exact H.drop (List.sublist_cons_self _ _) | exact H.drop ((List.sublist_cons_self _ _).trans (List.sublist_cons_self _ _)) | exact H.drop ((List.sublist_cons_self _ _).trans ((List.sublist_cons_self _ _).trans (List.sublist_cons_self _ _))) | exact H.drop ((List.sublist_cons_self _ _).trans ((List.sublist_cons_self _ _).trans ((List.sublist_cons_self _ _).trans (List.sublist_cons_self _ _)))) | exact H.drop ((List.sublist_cons_self _ _).trans ((List.sublist_cons_self _ _).trans ((List.sublist_cons_self _ _).trans ((List.sublist_cons_self _ _).trans (List.sublist_cons_self _ _)))))), ?_⟩
          refine OPH.take 4 rfl rfl rfl rfl (by kernel_rfl) (by kernel_rfl) (by kernel_rfl) rfl (by first | exact H | exact H.drop (List.sublist_cons_self _ _) | exact H.drop ((List.sublist_cons_self _ _).trans (List.sublist_cons_self _ _)) | exact H.drop ((List.sublist_cons_self _ _).trans ((List.sublist_cons_self _ _).trans (List.sublist_cons_self _ _))) | exact H.drop ((List.sublist_cons_self _ _).trans ((List.sublist_cons_self _ _).trans ((List.sublist_cons_self _ _).trans (List.sublist_cons_self _ _)))) | exact H.drop ((List.sublist_cons_self _ _).trans ((List.sublist_cons_self _ _).trans ((List.sublist_cons_self _ _).trans ((List.sublist_cons_self _ _).trans (List.sublist_cons_self _ _)))))) (fun w H => Ev.mvT rfl) ?_
          refine OPH.take 5 rfl rfl rfl rfl (by kernel_rfl) (by kernel_rfl) (by kernel_rfl) rfl (by first | exact H | exact H.drop (List.sublist_cons_self _ _) | exact H.drop ((List.sublist_cons_self _ _).trans (List.sublist_cons_self _ _)) | exact H.drop ((List.sublist_cons_self _ _).trans ((List.sublist_cons_self _ _).trans (List.sublist_cons_self _ _))) | exact H.drop ((List.sublist_cons_self _ _).trans ((List.sublist_cons_self _ _).trans ((List.sublist_cons_self _ _).trans (List.sublist_cons_self _ _)))) | exact H.drop ((List.sublist_cons_self _ _).trans ((List.sublist_cons_self _ _).trans ((List.sublist_cons_self _ _).trans ((List.sublist_cons_self _ _).trans (List.sublist_cons_self _ _)))))) (fun w H => Ev.extract rfl rfl) ?_
          refine OPH.take 6 rfl rfl rfl rfl (by kernel_rfl) (by kernel_rfl) (by kernel_rfl) rfl (by first | exact H | exact H.drop (List.sublist_cons_self _ _) | exact H.drop ((List.sublist_cons_self _ _).trans (List.sublist_cons_self _ _)) | exact H.drop ((List.sublist_cons_self _ _).trans ((List.sublist_cons_self _ _).trans (List.sublist_cons_self _ _))) | exact H.drop ((List.sublist_cons_self _ _).trans ((List.sublist_cons_self _ _).trans ((List.sublist_cons_self _ _).trans (List.sublist_cons_self _ _)))) | exact H.drop ((List.sublist_cons_self _ _).trans ((List.sublist_cons_self _ _).trans ((List.sublist_cons_self _ _).trans ((List.sublist_cons_self _ _).trans (List.sublist_cons_self _ _)))))) (fun w H => Ev.extract rfl rfl) ?_
          refine OPH.all [8] (by kernel_rfl) (by simp) rfl ?_
          intro i hi; simp only [List.mem_cons, List.not_mem_nil, or_false] at hi
          rcases hi with rfl
          · refine ⟨_, rfl, ?_⟩
            first | refine OPS.store 0 _ rfl rfl rfl (size_run rfl) rfl (cA rfl) rfl rfl H rfl (by simp) ?_ | refine OPS.store 1 _ rfl rfl rfl (size_run rfl) rfl (cA rfl) rfl rfl H rfl (by simp) ?_ | refine OPS.store 2 _ rfl rfl rfl (size_run rfl) rfl (cA rfl) rfl rfl H rfl (by simp) ?_ | refine OPS.store 3 _ rfl rfl rfl (size_run rfl) rfl (cA rfl) rfl rfl H rfl (by simp) ?_ | refine OPS.store 4 _ rfl rfl rfl (size_run rfl) rfl (cA rfl) rfl rfl H rfl (by simp) ?_ | refine OPS.store 5 _ rfl rfl rfl (size_run rfl) rfl (cA rfl) rfl rfl H rfl (by simp) ?_ | refine OPS.store 6 _ rfl rfl rfl (size_run rfl) rfl (cA rfl) rfl rfl H rfl (by simp) ?_ | refine OPS.store 7 _ rfl rfl rfl (size_run rfl) rfl (cA rfl) rfl rfl H rfl (by simp) ?_ | refine OPS.store 8 _ rfl rfl rfl (size_run rfl) rfl (cA rfl) rfl rfl H rfl (by simp) ?_
            clear H; intro w H; try simp only [List.set_cons_zero, List.set_cons_succ, putL, Nat.zero_add] at H
            refine OPS.nil ?_
            refine ⟨(by first | exact H | exact H.drop (List.sublist_cons_self _ _) | exact H.drop ((List.sublist_cons_self _ _).trans (List.sublist_cons_self _ _)) | exact H.drop ((List.sublist_cons_self _ _).trans ((List.sublist_cons_self _ _).trans (List.sublist_cons_self _ _))) | exact H.drop ((List.sublist_cons_self _ _).trans ((List.sublist_cons_self _ _).trans ((List.sublist_cons_self _ _).trans (List.sublist_cons_self _ _)))) | exact H.drop ((List.sublist_cons_self _ _).trans ((List.sublist_cons_self _ _).trans ((List.sublist_cons_self _ _).trans ((List.sublist_cons_self _ _).trans (List.sublist_cons_self _ _)))))), ?_⟩
            refine OPH.take 9 rfl rfl rfl rfl (by kernel_rfl) (by kernel_rfl) (by kernel_rfl) rfl (by first | exact H | exact H.drop (List.sublist_cons_self _ _) | exact H.drop ((List.sublist_cons_self _ _).trans (List.sublist_cons_self _ _)) | exact H.drop ((List.sublist_cons_self _ _).trans ((List.sublist_cons_self _ _).trans (List.sublist_cons_self _ _))) | exact H.drop ((List.sublist_cons_self _ _).trans ((List.sublist_cons_self _ _).trans ((List.sublist_cons_self _ _).trans (List.sublist_cons_self _ _)))) | exact H.drop ((List.sublist_cons_self _ _).trans ((List.sublist_cons_self _ _).trans ((List.sublist_cons_self _ _).trans ((List.sublist_cons_self _ _).trans (List.sublist_cons_self _ _)))))) (fun w H => Ev.asI rfl) ?_
            refine OPH.done (by kernel_rfl) ?_
            exact ⟨(by repeat (first | exact Agree.refl _ _ | exact Agree.mix _ _ _ | refine Agree.upd rfl ?_ | refine Agree.mix2 rfl ?_)), g6, rfl, rfl, H⟩
  clear H
  rintro u7 w ⟨g6, h6, h6', H⟩
  refine WP.know (t := 6) h6 (WP.know (t := 7) h6' ?_)
  replace hR := hR.sh H hoff7.1 hoff7.2
  replace H := SH.cont HB7 H
  refine WP.seq ?_
  obtain ⟨wS8, rfl⟩ : ∃ x, x = w := ⟨_, rfl⟩
  have HB8 := H
  have hoff8 := hR.off H (by simp)
  replace H := H.restart (List.Sublist.refl _)
  refine WP.rheldC [8, 9, 38, 39, 40, 41, 42, 43, 44] (fun u w' => ∃ g8, u 8 = .pointer (some ⟨g8, 0, none⟩) ∧ u 9 = I 0 ∧ SH wS8 ([(⟨g6, 42, spC s1⟩ : Blk), ⟨g1, 24, flC f1 none 0 (some ⟨g10, 0, none⟩) 1⟩, ⟨g10, 3, [I 1]⟩].map (·.g)) w' (⟨g8, 42, spC s2⟩ :: [(⟨g6, 42, spC s1⟩ : Blk), ⟨g1, 24, flC f1 none 0 (some ⟨g10, 0, none⟩) 1⟩, ⟨g10, 3, [I 1]⟩])) mixed H ?_ ?_
  · clear H; intro w hbw8 H
    refine OPH.take 0 rfl rfl rfl rfl (by kernel_rfl) (by kernel_rfl) (by kernel_rfl) rfl (by first | exact H | exact H.drop (List.sublist_cons_self _ _) | exact H.drop ((List.sublist_cons_self _ _).trans (List.sublist_cons_self _ _)) | exact H.drop ((List.sublist_cons_self _ _).trans ((List.sublist_cons_self _ _).trans (List.sublist_cons_self _ _))) | exact H.drop ((List.sublist_cons_self _ _).trans ((List.sublist_cons_self _ _).trans ((List.sublist_cons_self _ _).trans (List.sublist_cons_self _ _)))) | exact H.drop ((List.sublist_cons_self _ _).trans ((List.sublist_cons_self _ _).trans ((List.sublist_cons_self _ _).trans ((List.sublist_cons_self _ _).trans (List.sublist_cons_self _ _)))))) (fun w H => (by first | exact Ev.loadO 0 H rfl (agg_run rfl) (size_run rfl) (by first | assumption | rfl) rfl | exact Ev.loadO 1 H rfl (agg_run rfl) (size_run rfl) (by first | assumption | rfl) rfl | exact Ev.loadO 2 H rfl (agg_run rfl) (size_run rfl) (by first | assumption | rfl) rfl | exact Ev.loadO 3 H rfl (agg_run rfl) (size_run rfl) (by first | assumption | rfl) rfl | exact Ev.loadO 4 H rfl (agg_run rfl) (size_run rfl) (by first | assumption | rfl) rfl | exact Ev.loadO 5 H rfl (agg_run rfl) (size_run rfl) (by first | assumption | rfl) rfl | exact Ev.loadO 6 H rfl (agg_run rfl) (size_run rfl) (by first | assumption | rfl) rfl | (change Ev _ _ _ _ (Op.load 24 (Operand.tmp 1)) _; fail))) ?_
    refine OPH.take 1 rfl rfl rfl rfl (by kernel_rfl) (by kernel_rfl) (by kernel_rfl) rfl (by first | exact H | exact H.drop (List.sublist_cons_self _ _) | exact H.drop ((List.sublist_cons_self _ _).trans (List.sublist_cons_self _ _)) | exact H.drop ((List.sublist_cons_self _ _).trans ((List.sublist_cons_self _ _).trans (List.sublist_cons_self _ _))) | exact H.drop ((List.sublist_cons_self _ _).trans ((List.sublist_cons_self _ _).trans ((List.sublist_cons_self _ _).trans (List.sublist_cons_self _ _)))) | exact H.drop ((List.sublist_cons_self _ _).trans ((List.sublist_cons_self _ _).trans ((List.sublist_cons_self _ _).trans ((List.sublist_cons_self _ _).trans (List.sublist_cons_self _ _)))))) (fun w H => Ev.mvP rfl) ?_
    refine OPH.all [2, 7] (by kernel_rfl) (by simp) rfl ?_
    intro i hi; simp only [List.mem_cons, List.not_mem_nil, or_false] at hi
    rcases hi with rfl | rfl
    · refine ⟨_, rfl, ?_⟩
      refine OPS.call (d := some 41) rfl rfl rfl (EvC.func (fun_run rfl)) (events 1 gR gM [e1, e2] w (hR.sh H hoff8.1 hoff8.2) (by simp)) ?_
      rintro _ w ⟨A, c, Lo, rfl, hO, Hc⟩
      refine ⟨_, rfl, ?_⟩
      replace H := H.toBelow Hc.below
      rw [srt12] at hO
      have hrow : RowsAt 9 evC w A [e2, e1] := OwnS.rowsE (es := [e2, e1]) hO Hc (fun b hb => hb)
      have hAc : A = none → c = 0 := by
        rintro rfl
        rcases hO.form with ⟨_, _, h, _⟩ | ⟨_, _, h, _⟩
        · exact h
        · cases h
      refine OPS.nil ?_
      refine ⟨(by first | exact H | exact H.drop (List.sublist_cons_self _ _) | exact H.drop ((List.sublist_cons_self _ _).trans (List.sublist_cons_self _ _)) | exact H.drop ((List.sublist_cons_self _ _).trans ((List.sublist_cons_self _ _).trans (List.sublist_cons_self _ _))) | exact H.drop ((List.sublist_cons_self _ _).trans ((List.sublist_cons_self _ _).trans ((List.sublist_cons_self _ _).trans (List.sublist_cons_self _ _)))) | exact H.drop ((List.sublist_cons_self _ _).trans ((List.sublist_cons_self _ _).trans ((List.sublist_cons_self _ _).trans ((List.sublist_cons_self _ _).trans (List.sublist_cons_self _ _)))))), ?_⟩
      refine OPH.all [3, 7] (by kernel_rfl) (by simp) rfl ?_
      intro i hi; simp only [List.mem_cons, List.not_mem_nil, or_false] at hi
      rcases hi with rfl | rfl
      · refine ⟨_, rfl, ?_⟩
        have hfa : FlAt w f1 none (some ⟨g10, 0, none⟩) := ⟨OnesAt.nil, by first | exact onesOwn (l := [(1 : Int)]) H 1 rfl | exact onesOwn (l := [(1 : Int)]) H 2 rfl | exact onesOwn (l := [(1 : Int)]) H 3 rfl, by decide, by decide⟩
        have hcall := custAt f1 0 (by decide) 20 none 0 (some ⟨g10, 0, none⟩) 1 A [e2, e1] c w hfa hrow ok12 fit12 (by simp) hAc
        rw [at20, atE20] at hcall
        refine OPS.call (d := some 42) rfl rfl rfl (EvC.func (fun_run rfl)) hcall ?_
        rintro _ w ⟨rfl, Hc⟩
        refine ⟨_, rfl, ?_⟩
        replace H := H.toBelow Hc.below
        refine OPS.nil ?_
        refine ⟨(by first | exact H | exact H.drop (List.sublist_cons_self _ _) | exact H.drop ((List.sublist_cons_self _ _).trans (List.sublist_cons_self _ _)) | exact H.drop ((List.sublist_cons_self _ _).trans ((List.sublist_cons_self _ _).trans (List.sublist_cons_self _ _))) | exact H.drop ((List.sublist_cons_self _ _).trans ((List.sublist_cons_self _ _).trans ((List.sublist_cons_self _ _).trans (List.sublist_cons_self _ _)))) | exact H.drop ((List.sublist_cons_self _ _).trans ((List.sublist_cons_self _ _).trans ((List.sublist_cons_self _ _).trans ((List.sublist_cons_self _ _).trans (List.sublist_cons_self _ _)))))), ?_⟩
        refine OPH.take 4 rfl rfl rfl rfl (by kernel_rfl) (by kernel_rfl) (by kernel_rfl) rfl (by first | exact H | exact H.drop (List.sublist_cons_self _ _) | exact H.drop ((List.sublist_cons_self _ _).trans (List.sublist_cons_self _ _)) | exact H.drop ((List.sublist_cons_self _ _).trans ((List.sublist_cons_self _ _).trans (List.sublist_cons_self _ _))) | exact H.drop ((List.sublist_cons_self _ _).trans ((List.sublist_cons_self _ _).trans ((List.sublist_cons_self _ _).trans (List.sublist_cons_self _ _)))) | exact H.drop ((List.sublist_cons_self _ _).trans ((List.sublist_cons_self _ _).trans ((List.sublist_cons_self _ _).trans ((List.sublist_cons_self _ _).trans (List.sublist_cons_self _ _)))))) (fun w H => Ev.mvT rfl) ?_
        refine OPH.take 5 rfl rfl rfl rfl (by kernel_rfl) (by kernel_rfl) (by kernel_rfl) rfl (by first | exact H | exact H.drop (List.sublist_cons_self _ _) | exact H.drop ((List.sublist_cons_self _ _).trans (List.sublist_cons_self _ _)) | exact H.drop ((List.sublist_cons_self _ _).trans ((List.sublist_cons_self _ _).trans (List.sublist_cons_self _ _))) | exact H.drop ((List.sublist_cons_self _ _).trans ((List.sublist_cons_self _ _).trans ((List.sublist_cons_self _ _).trans (List.sublist_cons_self _ _)))) | exact H.drop ((List.sublist_cons_self _ _).trans ((List.sublist_cons_self _ _).trans ((List.sublist_cons_self _ _).trans ((List.sublist_cons_self _ _).trans (List.sublist_cons_self _ _)))))) (fun w H => Ev.extract rfl rfl) ?_
        refine OPH.take 6 rfl rfl rfl rfl (by kernel_rfl) (by kernel_rfl) (by kernel_rfl) rfl (by first | exact H | exact H.drop (List.sublist_cons_self _ _) | exact H.drop ((List.sublist_cons_self _ _).trans (List.sublist_cons_self _ _)) | exact H.drop ((List.sublist_cons_self _ _).trans ((List.sublist_cons_self _ _).trans (List.sublist_cons_self _ _))) | exact H.drop ((List.sublist_cons_self _ _).trans ((List.sublist_cons_self _ _).trans ((List.sublist_cons_self _ _).trans (List.sublist_cons_self _ _)))) | exact H.drop ((List.sublist_cons_self _ _).trans ((List.sublist_cons_self _ _).trans ((List.sublist_cons_self _ _).trans ((List.sublist_cons_self _ _).trans (List.sublist_cons_self _ _)))))) (fun w H => Ev.extract rfl rfl) ?_
        refine OPH.all [7] (by kernel_rfl) (by simp) rfl ?_
        intro i hi; simp only [List.mem_cons, List.not_mem_nil, or_false] at hi
        rcases hi with rfl
        · refine ⟨_, rfl, ?_⟩
          refine OPS.allocB rfl rfl rfl rfl (zero_run rfl) rfl H ?_
          clear H; intro g8 w hba H
          (try replace hrow := hrow.below hba)
          refine OPS.nil ?_
          refine ⟨(by first | exact H | exact H.drop (List.sublist_cons_self _ _) | exact H.drop ((List.sublist_cons_self _ _).trans (List.sublist_cons_self _ _)) | exact H.drop ((List.sublist_cons_self _ _).trans ((List.sublist_cons_self _ _).trans (List.sublist_cons_self _ _))) | exact H.drop ((List.sublist_cons_self _ _).trans ((List.sublist_cons_self _ _).trans ((List.sublist_cons_self _ _).trans (List.sublist_cons_self _ _)))) | exact H.drop ((List.sublist_cons_self _ _).trans ((List.sublist_cons_self _ _).trans ((List.sublist_cons_self _ _).trans ((List.sublist_cons_self _ _).trans (List.sublist_cons_self _ _)))))), ?_⟩
          refine OPH.all [8] (by kernel_rfl) (by simp) rfl ?_
          intro i hi; simp only [List.mem_cons, List.not_mem_nil, or_false] at hi
          rcases hi with rfl
          · refine ⟨_, rfl, ?_⟩
            first | refine OPS.store 0 _ rfl rfl rfl (size_run rfl) rfl (cA rfl) rfl rfl H rfl (by simp) ?_ | refine OPS.store 1 _ rfl rfl rfl (size_run rfl) rfl (cA rfl) rfl rfl H rfl (by simp) ?_ | refine OPS.store 2 _ rfl rfl rfl (size_run rfl) rfl (cA rfl) rfl rfl H rfl (by simp) ?_ | refine OPS.store 3 _ rfl rfl rfl (size_run rfl) rfl (cA rfl) rfl rfl H rfl (by simp) ?_ | refine OPS.store 4 _ rfl rfl rfl (size_run rfl) rfl (cA rfl) rfl rfl H rfl (by simp) ?_ | refine OPS.store 5 _ rfl rfl rfl (size_run rfl) rfl (cA rfl) rfl rfl H rfl (by simp) ?_ | refine OPS.store 6 _ rfl rfl rfl (size_run rfl) rfl (cA rfl) rfl rfl H rfl (by simp) ?_ | refine OPS.store 7 _ rfl rfl rfl (size_run rfl) rfl (cA rfl) rfl rfl H rfl (by simp) ?_ | refine OPS.store 8 _ rfl rfl rfl (size_run rfl) rfl (cA rfl) rfl rfl H rfl (by simp) ?_
            clear H; intro w H; try simp only [List.set_cons_zero, List.set_cons_succ, putL, Nat.zero_add] at H
            refine OPS.nil ?_
            refine ⟨(by first | exact H | exact H.drop (List.sublist_cons_self _ _) | exact H.drop ((List.sublist_cons_self _ _).trans (List.sublist_cons_self _ _)) | exact H.drop ((List.sublist_cons_self _ _).trans ((List.sublist_cons_self _ _).trans (List.sublist_cons_self _ _))) | exact H.drop ((List.sublist_cons_self _ _).trans ((List.sublist_cons_self _ _).trans ((List.sublist_cons_self _ _).trans (List.sublist_cons_self _ _)))) | exact H.drop ((List.sublist_cons_self _ _).trans ((List.sublist_cons_self _ _).trans ((List.sublist_cons_self _ _).trans ((List.sublist_cons_self _ _).trans (List.sublist_cons_self _ _)))))), ?_⟩
            refine OPH.take 9 rfl rfl rfl rfl (by kernel_rfl) (by kernel_rfl) (by kernel_rfl) rfl (by first | exact H | exact H.drop (List.sublist_cons_self _ _) | exact H.drop ((List.sublist_cons_self _ _).trans (List.sublist_cons_self _ _)) | exact H.drop ((List.sublist_cons_self _ _).trans ((List.sublist_cons_self _ _).trans (List.sublist_cons_self _ _))) | exact H.drop ((List.sublist_cons_self _ _).trans ((List.sublist_cons_self _ _).trans ((List.sublist_cons_self _ _).trans (List.sublist_cons_self _ _)))) | exact H.drop ((List.sublist_cons_self _ _).trans ((List.sublist_cons_self _ _).trans ((List.sublist_cons_self _ _).trans ((List.sublist_cons_self _ _).trans (List.sublist_cons_self _ _)))))) (fun w H => Ev.asI rfl) ?_
            refine OPH.done (by kernel_rfl) ?_
            exact ⟨(by repeat (first | exact Agree.refl _ _ | exact Agree.mix _ _ _ | refine Agree.upd rfl ?_ | refine Agree.mix2 rfl ?_)), g8, rfl, rfl, H⟩
      · refine ⟨_, rfl, ?_⟩
        refine OPS.allocB rfl rfl rfl rfl (zero_run rfl) rfl H ?_
        clear H; intro g8 w hba H
        (try replace hrow := hrow.below hba)
        refine OPS.nil ?_
        refine ⟨(by first | exact H | exact H.drop (List.sublist_cons_self _ _) | exact H.drop ((List.sublist_cons_self _ _).trans (List.sublist_cons_self _ _)) | exact H.drop ((List.sublist_cons_self _ _).trans ((List.sublist_cons_self _ _).trans (List.sublist_cons_self _ _))) | exact H.drop ((List.sublist_cons_self _ _).trans ((List.sublist_cons_self _ _).trans ((List.sublist_cons_self _ _).trans (List.sublist_cons_self _ _)))) | exact H.drop ((List.sublist_cons_self _ _).trans ((List.sublist_cons_self _ _).trans ((List.sublist_cons_self _ _).trans ((List.sublist_cons_self _ _).trans (List.sublist_cons_self _ _)))))), ?_⟩
        refine OPH.all [3] (by kernel_rfl) (by simp) rfl ?_
        intro i hi; simp only [List.mem_cons, List.not_mem_nil, or_false] at hi
        rcases hi with rfl
        · refine ⟨_, rfl, ?_⟩
          have hfa : FlAt w f1 none (some ⟨g10, 0, none⟩) := ⟨OnesAt.nil, by first | exact onesOwn (l := [(1 : Int)]) H 1 rfl | exact onesOwn (l := [(1 : Int)]) H 2 rfl | exact onesOwn (l := [(1 : Int)]) H 3 rfl, by decide, by decide⟩
          have hcall := custAt f1 0 (by decide) 20 none 0 (some ⟨g10, 0, none⟩) 1 A [e2, e1] c w hfa hrow ok12 fit12 (by simp) hAc
          rw [at20, atE20] at hcall
          refine OPS.call (d := some 42) rfl rfl rfl (EvC.func (fun_run rfl)) hcall ?_
          rintro _ w ⟨rfl, Hc⟩
          refine ⟨_, rfl, ?_⟩
          replace H := H.toBelow Hc.below
          refine OPS.nil ?_
          refine ⟨(by first | exact H | exact H.drop (List.sublist_cons_self _ _) | exact H.drop ((List.sublist_cons_self _ _).trans (List.sublist_cons_self _ _)) | exact H.drop ((List.sublist_cons_self _ _).trans ((List.sublist_cons_self _ _).trans (List.sublist_cons_self _ _))) | exact H.drop ((List.sublist_cons_self _ _).trans ((List.sublist_cons_self _ _).trans ((List.sublist_cons_self _ _).trans (List.sublist_cons_self _ _)))) | exact H.drop ((List.sublist_cons_self _ _).trans ((List.sublist_cons_self _ _).trans ((List.sublist_cons_self _ _).trans ((List.sublist_cons_self _ _).trans (List.sublist_cons_self _ _)))))), ?_⟩
          refine OPH.take 4 rfl rfl rfl rfl (by kernel_rfl) (by kernel_rfl) (by kernel_rfl) rfl (by first | exact H | exact H.drop (List.sublist_cons_self _ _) | exact H.drop ((List.sublist_cons_self _ _).trans (List.sublist_cons_self _ _)) | exact H.drop ((List.sublist_cons_self _ _).trans ((List.sublist_cons_self _ _).trans (List.sublist_cons_self _ _))) | exact H.drop ((List.sublist_cons_self _ _).trans ((List.sublist_cons_self _ _).trans ((List.sublist_cons_self _ _).trans (List.sublist_cons_self _ _)))) | exact H.drop ((List.sublist_cons_self _ _).trans ((List.sublist_cons_self _ _).trans ((List.sublist_cons_self _ _).trans ((List.sublist_cons_self _ _).trans (List.sublist_cons_self _ _)))))) (fun w H => Ev.mvT rfl) ?_
          refine OPH.take 5 rfl rfl rfl rfl (by kernel_rfl) (by kernel_rfl) (by kernel_rfl) rfl (by first | exact H | exact H.drop (List.sublist_cons_self _ _) | exact H.drop ((List.sublist_cons_self _ _).trans (List.sublist_cons_self _ _)) | exact H.drop ((List.sublist_cons_self _ _).trans ((List.sublist_cons_self _ _).trans (List.sublist_cons_self _ _))) | exact H.drop ((List.sublist_cons_self _ _).trans ((List.sublist_cons_self _ _).trans ((List.sublist_cons_self _ _).trans (List.sublist_cons_self _ _)))) | exact H.drop ((List.sublist_cons_self _ _).trans ((List.sublist_cons_self _ _).trans ((List.sublist_cons_self _ _).trans ((List.sublist_cons_self _ _).trans (List.sublist_cons_self _ _)))))) (fun w H => Ev.extract rfl rfl) ?_
          refine OPH.take 6 rfl rfl rfl rfl (by kernel_rfl) (by kernel_rfl) (by kernel_rfl) rfl (by first | exact H | exact H.drop (List.sublist_cons_self _ _) | exact H.drop ((List.sublist_cons_self _ _).trans (List.sublist_cons_self _ _)) | exact H.drop ((List.sublist_cons_self _ _).trans ((List.sublist_cons_self _ _).trans (List.sublist_cons_self _ _))) | exact H.drop ((List.sublist_cons_self _ _).trans ((List.sublist_cons_self _ _).trans ((List.sublist_cons_self _ _).trans (List.sublist_cons_self _ _)))) | exact H.drop ((List.sublist_cons_self _ _).trans ((List.sublist_cons_self _ _).trans ((List.sublist_cons_self _ _).trans ((List.sublist_cons_self _ _).trans (List.sublist_cons_self _ _)))))) (fun w H => Ev.extract rfl rfl) ?_
          refine OPH.all [8] (by kernel_rfl) (by simp) rfl ?_
          intro i hi; simp only [List.mem_cons, List.not_mem_nil, or_false] at hi
          rcases hi with rfl
          · refine ⟨_, rfl, ?_⟩
            first | refine OPS.store 0 _ rfl rfl rfl (size_run rfl) rfl (cA rfl) rfl rfl H rfl (by simp) ?_ | refine OPS.store 1 _ rfl rfl rfl (size_run rfl) rfl (cA rfl) rfl rfl H rfl (by simp) ?_ | refine OPS.store 2 _ rfl rfl rfl (size_run rfl) rfl (cA rfl) rfl rfl H rfl (by simp) ?_ | refine OPS.store 3 _ rfl rfl rfl (size_run rfl) rfl (cA rfl) rfl rfl H rfl (by simp) ?_ | refine OPS.store 4 _ rfl rfl rfl (size_run rfl) rfl (cA rfl) rfl rfl H rfl (by simp) ?_ | refine OPS.store 5 _ rfl rfl rfl (size_run rfl) rfl (cA rfl) rfl rfl H rfl (by simp) ?_ | refine OPS.store 6 _ rfl rfl rfl (size_run rfl) rfl (cA rfl) rfl rfl H rfl (by simp) ?_ | refine OPS.store 7 _ rfl rfl rfl (size_run rfl) rfl (cA rfl) rfl rfl H rfl (by simp) ?_ | refine OPS.store 8 _ rfl rfl rfl (size_run rfl) rfl (cA rfl) rfl rfl H rfl (by simp) ?_
            clear H; intro w H; try simp only [List.set_cons_zero, List.set_cons_succ, putL, Nat.zero_add] at H
            refine OPS.nil ?_
            refine ⟨(by first | exact H | exact H.drop (List.sublist_cons_self _ _) | exact H.drop ((List.sublist_cons_self _ _).trans (List.sublist_cons_self _ _)) | exact H.drop ((List.sublist_cons_self _ _).trans ((List.sublist_cons_self _ _).trans (List.sublist_cons_self _ _))) | exact H.drop ((List.sublist_cons_self _ _).trans ((List.sublist_cons_self _ _).trans ((List.sublist_cons_self _ _).trans (List.sublist_cons_self _ _)))) | exact H.drop ((List.sublist_cons_self _ _).trans ((List.sublist_cons_self _ _).trans ((List.sublist_cons_self _ _).trans ((List.sublist_cons_self _ _).trans (List.sublist_cons_self _ _)))))), ?_⟩
            refine OPH.take 9 rfl rfl rfl rfl (by kernel_rfl) (by kernel_rfl) (by kernel_rfl) rfl (by first | exact H | exact H.drop (List.sublist_cons_self _ _) | exact H.drop ((List.sublist_cons_self _ _).trans (List.sublist_cons_self _ _)) | exact H.drop ((List.sublist_cons_self _ _).trans ((List.sublist_cons_self _ _).trans (List.sublist_cons_self _ _))) | exact H.drop ((List.sublist_cons_self _ _).trans ((List.sublist_cons_self _ _).trans ((List.sublist_cons_self _ _).trans (List.sublist_cons_self _ _)))) | exact H.drop ((List.sublist_cons_self _ _).trans ((List.sublist_cons_self _ _).trans ((List.sublist_cons_self _ _).trans ((List.sublist_cons_self _ _).trans (List.sublist_cons_self _ _)))))) (fun w H => Ev.asI rfl) ?_
            refine OPH.done (by kernel_rfl) ?_
            exact ⟨(by repeat (first | exact Agree.refl _ _ | exact Agree.mix _ _ _ | refine Agree.upd rfl ?_ | refine Agree.mix2 rfl ?_)), g8, rfl, rfl, H⟩
    · refine ⟨_, rfl, ?_⟩
      refine OPS.allocB rfl rfl rfl rfl (zero_run rfl) rfl H ?_
      clear H; intro g8 w hba H
      (try replace hrow := hrow.below hba)
      refine OPS.nil ?_
      refine ⟨(by first | exact H | exact H.drop (List.sublist_cons_self _ _) | exact H.drop ((List.sublist_cons_self _ _).trans (List.sublist_cons_self _ _)) | exact H.drop ((List.sublist_cons_self _ _).trans ((List.sublist_cons_self _ _).trans (List.sublist_cons_self _ _))) | exact H.drop ((List.sublist_cons_self _ _).trans ((List.sublist_cons_self _ _).trans ((List.sublist_cons_self _ _).trans (List.sublist_cons_self _ _)))) | exact H.drop ((List.sublist_cons_self _ _).trans ((List.sublist_cons_self _ _).trans ((List.sublist_cons_self _ _).trans ((List.sublist_cons_self _ _).trans (List.sublist_cons_self _ _)))))), ?_⟩
      refine OPH.all [2] (by kernel_rfl) (by simp) rfl ?_
      intro i hi; simp only [List.mem_cons, List.not_mem_nil, or_false] at hi
      rcases hi with rfl
      · refine ⟨_, rfl, ?_⟩
        refine OPS.call (d := some 41) rfl rfl rfl (EvC.func (fun_run rfl)) (events 1 gR gM [e1, e2] w (hR.sh H hoff8.1 hoff8.2) (by simp)) ?_
        rintro _ w ⟨A, c, Lo, rfl, hO, Hc⟩
        refine ⟨_, rfl, ?_⟩
        replace H := H.toBelow Hc.below
        rw [srt12] at hO
        have hrow : RowsAt 9 evC w A [e2, e1] := OwnS.rowsE (es := [e2, e1]) hO Hc (fun b hb => hb)
        have hAc : A = none → c = 0 := by
          rintro rfl
          rcases hO.form with ⟨_, _, h, _⟩ | ⟨_, _, h, _⟩
          · exact h
          · cases h
        refine OPS.nil ?_
        refine ⟨(by first | exact H | exact H.drop (List.sublist_cons_self _ _) | exact H.drop ((List.sublist_cons_self _ _).trans (List.sublist_cons_self _ _)) | exact H.drop ((List.sublist_cons_self _ _).trans ((List.sublist_cons_self _ _).trans (List.sublist_cons_self _ _))) | exact H.drop ((List.sublist_cons_self _ _).trans ((List.sublist_cons_self _ _).trans ((List.sublist_cons_self _ _).trans (List.sublist_cons_self _ _)))) | exact H.drop ((List.sublist_cons_self _ _).trans ((List.sublist_cons_self _ _).trans ((List.sublist_cons_self _ _).trans ((List.sublist_cons_self _ _).trans (List.sublist_cons_self _ _)))))), ?_⟩
        refine OPH.all [3] (by kernel_rfl) (by simp) rfl ?_
        intro i hi; simp only [List.mem_cons, List.not_mem_nil, or_false] at hi
        rcases hi with rfl
        · refine ⟨_, rfl, ?_⟩
          have hfa : FlAt w f1 none (some ⟨g10, 0, none⟩) := ⟨OnesAt.nil, by first | exact onesOwn (l := [(1 : Int)]) H 1 rfl | exact onesOwn (l := [(1 : Int)]) H 2 rfl | exact onesOwn (l := [(1 : Int)]) H 3 rfl, by decide, by decide⟩
          have hcall := custAt f1 0 (by decide) 20 none 0 (some ⟨g10, 0, none⟩) 1 A [e2, e1] c w hfa hrow ok12 fit12 (by simp) hAc
          rw [at20, atE20] at hcall
          refine OPS.call (d := some 42) rfl rfl rfl (EvC.func (fun_run rfl)) hcall ?_
          rintro _ w ⟨rfl, Hc⟩
          refine ⟨_, rfl, ?_⟩
          replace H := H.toBelow Hc.below
          refine OPS.nil ?_
          refine ⟨(by first | exact H | exact H.drop (List.sublist_cons_self _ _) | exact H.drop ((List.sublist_cons_self _ _).trans (List.sublist_cons_self _ _)) | exact H.drop ((List.sublist_cons_self _ _).trans ((List.sublist_cons_self _ _).trans (List.sublist_cons_self _ _))) | exact H.drop ((List.sublist_cons_self _ _).trans ((List.sublist_cons_self _ _).trans ((List.sublist_cons_self _ _).trans (List.sublist_cons_self _ _)))) | exact H.drop ((List.sublist_cons_self _ _).trans ((List.sublist_cons_self _ _).trans ((List.sublist_cons_self _ _).trans ((List.sublist_cons_self _ _).trans (List.sublist_cons_self _ _)))))), ?_⟩
          refine OPH.take 4 rfl rfl rfl rfl (by kernel_rfl) (by kernel_rfl) (by kernel_rfl) rfl (by first | exact H | exact H.drop (List.sublist_cons_self _ _) | exact H.drop ((List.sublist_cons_self _ _).trans (List.sublist_cons_self _ _)) | exact H.drop ((List.sublist_cons_self _ _).trans ((List.sublist_cons_self _ _).trans (List.sublist_cons_self _ _))) | exact H.drop ((List.sublist_cons_self _ _).trans ((List.sublist_cons_self _ _).trans ((List.sublist_cons_self _ _).trans (List.sublist_cons_self _ _)))) | exact H.drop ((List.sublist_cons_self _ _).trans ((List.sublist_cons_self _ _).trans ((List.sublist_cons_self _ _).trans ((List.sublist_cons_self _ _).trans (List.sublist_cons_self _ _)))))) (fun w H => Ev.mvT rfl) ?_
          refine OPH.take 5 rfl rfl rfl rfl (by kernel_rfl) (by kernel_rfl) (by kernel_rfl) rfl (by first | exact H | exact H.drop (List.sublist_cons_self _ _) | exact H.drop ((List.sublist_cons_self _ _).trans (List.sublist_cons_self _ _)) | exact H.drop ((List.sublist_cons_self _ _).trans ((List.sublist_cons_self _ _).trans (List.sublist_cons_self _ _))) | exact H.drop ((List.sublist_cons_self _ _).trans ((List.sublist_cons_self _ _).trans ((List.sublist_cons_self _ _).trans (List.sublist_cons_self _ _)))) | exact H.drop ((List.sublist_cons_self _ _).trans ((List.sublist_cons_self _ _).trans ((List.sublist_cons_self _ _).trans ((List.sublist_cons_self _ _).trans (List.sublist_cons_self _ _)))))) (fun w H => Ev.extract rfl rfl) ?_
          refine OPH.take 6 rfl rfl rfl rfl (by kernel_rfl) (by kernel_rfl) (by kernel_rfl) rfl (by first | exact H | exact H.drop (List.sublist_cons_self _ _) | exact H.drop ((List.sublist_cons_self _ _).trans (List.sublist_cons_self _ _)) | exact H.drop ((List.sublist_cons_self _ _).trans ((List.sublist_cons_self _ _).trans (List.sublist_cons_self _ _))) | exact H.drop ((List.sublist_cons_self _ _).trans ((List.sublist_cons_self _ _).trans ((List.sublist_cons_self _ _).trans (List.sublist_cons_self _ _)))) | exact H.drop ((List.sublist_cons_self _ _).trans ((List.sublist_cons_self _ _).trans ((List.sublist_cons_self _ _).trans ((List.sublist_cons_self _ _).trans (List.sublist_cons_self _ _)))))) (fun w H => Ev.extract rfl rfl) ?_
          refine OPH.all [8] (by kernel_rfl) (by simp) rfl ?_
          intro i hi; simp only [List.mem_cons, List.not_mem_nil, or_false] at hi
          rcases hi with rfl
          · refine ⟨_, rfl, ?_⟩
            first | refine OPS.store 0 _ rfl rfl rfl (size_run rfl) rfl (cA rfl) rfl rfl H rfl (by simp) ?_ | refine OPS.store 1 _ rfl rfl rfl (size_run rfl) rfl (cA rfl) rfl rfl H rfl (by simp) ?_ | refine OPS.store 2 _ rfl rfl rfl (size_run rfl) rfl (cA rfl) rfl rfl H rfl (by simp) ?_ | refine OPS.store 3 _ rfl rfl rfl (size_run rfl) rfl (cA rfl) rfl rfl H rfl (by simp) ?_ | refine OPS.store 4 _ rfl rfl rfl (size_run rfl) rfl (cA rfl) rfl rfl H rfl (by simp) ?_ | refine OPS.store 5 _ rfl rfl rfl (size_run rfl) rfl (cA rfl) rfl rfl H rfl (by simp) ?_ | refine OPS.store 6 _ rfl rfl rfl (size_run rfl) rfl (cA rfl) rfl rfl H rfl (by simp) ?_ | refine OPS.store 7 _ rfl rfl rfl (size_run rfl) rfl (cA rfl) rfl rfl H rfl (by simp) ?_ | refine OPS.store 8 _ rfl rfl rfl (size_run rfl) rfl (cA rfl) rfl rfl H rfl (by simp) ?_
            clear H; intro w H; try simp only [List.set_cons_zero, List.set_cons_succ, putL, Nat.zero_add] at H
            refine OPS.nil ?_
            refine ⟨(by first | exact H | exact H.drop (List.sublist_cons_self _ _) | exact H.drop ((List.sublist_cons_self _ _).trans (List.sublist_cons_self _ _)) | exact H.drop ((List.sublist_cons_self _ _).trans ((List.sublist_cons_self _ _).trans (List.sublist_cons_self _ _))) | exact H.drop ((List.sublist_cons_self _ _).trans ((List.sublist_cons_self _ _).trans ((List.sublist_cons_self _ _).trans (List.sublist_cons_self _ _)))) | exact H.drop ((List.sublist_cons_self _ _).trans ((List.sublist_cons_self _ _).trans ((List.sublist_cons_self _ _).trans ((List.sublist_cons_self _ _).trans (List.sublist_cons_self _ _)))))), ?_⟩
            refine OPH.take 9 rfl rfl rfl rfl (by kernel_rfl) (by kernel_rfl) (by kernel_rfl) rfl (by first | exact H | exact H.drop (List.sublist_cons_self _ _) | exact H.drop ((List.sublist_cons_self _ _).trans (List.sublist_cons_self _ _)) | exact H.drop ((List.sublist_cons_self _ _).trans ((List.sublist_cons_self _ _).trans (List.sublist_cons_self _ _))) | exact H.drop ((List.sublist_cons_self _ _).trans ((List.sublist_cons_self _ _).trans ((List.sublist_cons_self _ _).trans (List.sublist_cons_self _ _)))) | exact H.drop ((List.sublist_cons_self _ _).trans ((List.sublist_cons_self _ _).trans ((List.sublist_cons_self _ _).trans ((List.sublist_cons_self _ _).trans (List.sublist_cons_self _ _)))))) (fun w H => Ev.asI rfl) ?_
            refine OPH.done (by kernel_rfl) ?_
            exact ⟨(by repeat (first | exact Agree.refl _ _ | exact Agree.mix _ _ _ | refine Agree.upd rfl ?_ | refine Agree.mix2 rfl ?_)), g8, rfl, rfl, H⟩
  clear H
  rintro u8 w ⟨g8, h8, h8', H⟩
  refine WP.know (t := 8) h8 (WP.know (t := 9) h8' ?_)
  replace hR := hR.sh H hoff8.1 hoff8.2
  replace H := SH.cont HB8 H
  refine WP.seq ?_
  refine WP.region ?_
  refine OPS.val rfl rfl rfl (Ev.mvB rfl) ?_
  refine OPS.val rfl rfl rfl (Ev.mvB rfl) ?_
  refine OPS.gval rfl rfl rfl rfl rfl (fun hg => Ev.mvI (by first | rfl | exact gvE hg rfl)) ?_
  refine OPS.gval rfl rfl rfl rfl rfl (fun hg => Ev.eql (by first | rfl | exact gvE hg rfl) (by first | rfl | exact gvE hg rfl)) ?_
  refine OPS.val rfl rfl rfl ((by first | exact Ev.pickOr rfl rfl rfl | exact Ev.pickAnd rfl rfl rfl)) ?_
  refine OPS.val rfl rfl rfl (Ev.mvB rfl) ?_
  refine OPS.gval rfl rfl rfl rfl rfl (fun hg => Ev.mvI (by first | rfl | exact gvE hg rfl)) ?_
  refine OPS.gval rfl rfl rfl rfl rfl (fun hg => Ev.eql (by first | rfl | exact gvE hg rfl) (by first | rfl | exact gvE hg rfl)) ?_
  refine OPS.val rfl rfl rfl ((by first | exact Ev.pickOr rfl rfl rfl | exact Ev.pickAnd rfl rfl rfl)) ?_
  refine OPS.val rfl rfl rfl (Ev.mvB rfl) ?_
  refine OPS.gval rfl rfl rfl rfl rfl (fun hg => Ev.mvI (by first | rfl | exact gvE hg rfl)) ?_
  refine OPS.gval rfl rfl rfl rfl rfl (fun hg => Ev.eql (by first | rfl | exact gvE hg rfl) (by first | rfl | exact gvE hg rfl)) ?_
  refine OPS.val rfl rfl rfl ((by first | exact Ev.pickOr rfl rfl rfl | exact Ev.pickAnd rfl rfl rfl)) ?_
  refine OPS.val rfl rfl rfl (Ev.mvB rfl) ?_
  refine OPS.gval rfl rfl rfl rfl rfl (fun hg => (by first | exact Ev.loadO 0 H rfl (agg_run rfl) (size_run rfl) (by first | assumption | rfl) rfl | exact Ev.loadO 1 H rfl (agg_run rfl) (size_run rfl) (by first | assumption | rfl) rfl | exact Ev.loadO 2 H rfl (agg_run rfl) (size_run rfl) (by first | assumption | rfl) rfl | exact Ev.loadO 3 H rfl (agg_run rfl) (size_run rfl) (by first | assumption | rfl) rfl | exact Ev.loadO 4 H rfl (agg_run rfl) (size_run rfl) (by first | assumption | rfl) rfl | exact Ev.loadO 5 H rfl (agg_run rfl) (size_run rfl) (by first | assumption | rfl) rfl | exact Ev.loadO 6 H rfl (agg_run rfl) (size_run rfl) (by first | assumption | rfl) rfl | (change Ev _ _ _ _ (Op.load 42 (Operand.tmp 6)) _; fail))) ?_
  refine OPS.gval rfl rfl rfl rfl rfl (fun hg => Ev.build (bld_42_0_1 (by first | rfl | exact gvE hg rfl) (by first | rfl | exact gvE hg rfl))) ?_
  refine OPS.gval rfl rfl rfl rfl rfl (fun hg => Ev.eqlA eqG42 (eqS42 s1) (gvE hg rfl) (gvE hg rfl)) ?_
  refine OPS.val rfl rfl rfl ((by first | exact Ev.pickOr rfl rfl rfl | exact Ev.pickAnd rfl rfl rfl)) ?_
  refine OPS.val rfl rfl rfl (Ev.mvB rfl) ?_
  refine OPS.gval rfl rfl rfl rfl rfl (fun hg => (by first | exact Ev.loadO 0 H rfl (agg_run rfl) (size_run rfl) (by first | assumption | rfl) rfl | exact Ev.loadO 1 H rfl (agg_run rfl) (size_run rfl) (by first | assumption | rfl) rfl | exact Ev.loadO 2 H rfl (agg_run rfl) (size_run rfl) (by first | assumption | rfl) rfl | exact Ev.loadO 3 H rfl (agg_run rfl) (size_run rfl) (by first | assumption | rfl) rfl | exact Ev.loadO 4 H rfl (agg_run rfl) (size_run rfl) (by first | assumption | rfl) rfl | exact Ev.loadO 5 H rfl (agg_run rfl) (size_run rfl) (by first | assumption | rfl) rfl | exact Ev.loadO 6 H rfl (agg_run rfl) (size_run rfl) (by first | assumption | rfl) rfl | (change Ev _ _ _ _ (Op.load 42 (Operand.tmp 8)) _; fail))) ?_
  refine OPS.gval rfl rfl rfl rfl rfl (fun hg => Ev.build (bld_42_0 (by first | rfl | exact gvE hg rfl))) ?_
  refine OPS.gval rfl rfl rfl rfl rfl (fun hg => Ev.eqlA eqG42 (eqS42 s2) (gvE hg rfl) (gvE hg rfl)) ?_
  refine OPS.val rfl rfl rfl ((by first | exact Ev.pickOr rfl rfl rfl | exact Ev.pickAnd rfl rfl rfl)) ?_
  refine OPS.val rfl rfl rfl (Ev.asB rfl) ?_
  refine OPS.nil ?_
  refine WP.ret ⟨_, rfl, ?_⟩
  exact ⟨rfl, H.drop (List.nil_sublist _)⟩
end Go.Proofs.Ytchjbjplddhknaa

/-
  Walks: alone, where no two spots are in one dock or ride.
-/
set_option linter.all false
namespace Go.Proofs.Ytchjbjplddhknaa
open Go Go.W Go.RowKit

theorem alone (A : Option Addr) (sp : List Spt) (cap : Nat) (w0 : World) (hz : RowsAt 4 spC w0 A sp) (hl : sp.length ≤ 128) (hno : ∀ i j, ∀ hi : i < sp.length, ∀ hj : j < sp.length, i ≠ j → ¬ Conf sp[i] sp[j]) :
    Calls Try.prog 12 #[.slice A sp.length cap] w0 fun e w' => e = .returned (.bool true) ∧ Below w0.heap.size w0 w' := by
  have H := SH.refl w0
  refine Calls.ofWP Try.func12 rfl Try.results12 Try.ntmps12 rfl ?_
  refine WP.seq ?_
  refine WP.region ?_
  refine OPS.val rfl rfl rfl (Ev.asB rfl) ?_
  refine OPS.nil ?_
  refine WP.seq ?_
  refine WP.seq ?_
  refine WP.region ?_
  refine OPS.val rfl rfl rfl (Ev.asI rfl) ?_
  refine OPS.nil ?_
  refine WP.block ?_
  refine WP.loop [2, 3, 4, 5, 6, 7, 8, 9, 10, 11, 12, 13, 14, 15, 16, 17, 18, 19, 20, 21, 22, 23, 24, 25, 26, 27, 28, 29, 30, 31, 32, 33, 34, 35, 36, 37, 38, 39, 40, 41, 42, 43, 44, 45, 46, 47, 48, 49, 50, 51, 52, 53, 54, 55, 56, 57, 58, 59, 60, 61, 62, 63, 64, 65, 66, 67, 68] (fun k e w' => ∃ (i : Nat), i + k = sp.length ∧ e 3 = I i ∧ SH w0 [] w' []) (sp.length) (⟨0, by omega, rfl, H⟩) ?_
  clear H
  rintro k u w ⟨i, hk, h3, H⟩
  refine WP.know (t := 3) h3 ?_
  refine WP.seq ?_
  refine WP.seq ?_
  refine WP.region ?_
  refine OPS.val rfl rfl rfl (Ev.mvI rfl) ?_
  refine OPS.val rfl rfl rfl (Ev.mvS rfl) ?_
  refine OPS.val rfl rfl rfl (Ev.len (el_run rfl) rfl) ?_
  refine OPS.val rfl rfl rfl (Ev.lss rfl rfl) ?_
  refine OPS.nil ?_
  refine WP.cond rfl (fun hc2 => ?_) (fun hc2 => ?_)
  · have hi : i < sp.length := by have h := of_decide_eq_true hc2; omega
    obtain ⟨b, o, rfl, hx⟩ := hz i hi
    refine WP.skip ?_
    refine WP.seq ?_
    refine WP.block ?_
    refine WP.seq ?_
    refine WP.region ?_
    refine OPS.val rfl rfl rfl (Ev.asI rfl) ?_
    refine OPS.nil ?_
    refine WP.block ?_
    refine WP.loop [2, 4, 11, 12, 13, 14, 15, 16, 17, 18, 19, 20, 21, 22, 23, 24, 25, 26, 27, 28, 29, 30, 31, 32, 33, 34, 35, 36, 37, 38, 39, 40, 41, 42, 43, 44, 45, 46, 47, 48, 49, 50, 51, 52, 53, 54, 55, 56, 57, 58, 59, 60, 61, 62, 63, 64, 65, 66, 67, 68] (fun k e w' => ∃ (j : Nat), j + k = i ∧ e 4 = I j ∧ SH w0 [] w' []) (i) (⟨0, by omega, rfl, H⟩) ?_
    clear H
    rintro k2 u2 w ⟨j, hk2, h4, H⟩
    refine WP.know (t := 4) h4 ?_
    refine WP.seq ?_
    refine WP.seq ?_
    refine WP.region ?_
    refine OPS.val rfl rfl rfl (Ev.mvI rfl) ?_
    refine OPS.val rfl rfl rfl (Ev.mvI rfl) ?_
    refine OPS.val rfl rfl rfl (Ev.lss rfl rfl) ?_
    refine OPS.nil ?_
    refine WP.cond rfl (fun hc5 => ?_) (fun hc5 => ?_)
    · have hji : j < i := by have h := of_decide_eq_true hc5; omega
      have hj : j < sp.length := by omega
      obtain ⟨b2, o2, hbo, hy⟩ := hz j hj
      cases hbo
      have hn := hno i j hi hj (by omega)
      obtain ⟨s, hs⟩ : ∃ s, s = sp[i] := ⟨_, rfl⟩
      obtain ⟨t, ht⟩ : ∃ t, t = sp[j] := ⟨_, rfl⟩
      rw [← hs] at hx hn
      rw [← ht] at hy hn
      have x1 : w0.cell? ⟨b, o + i * 4, none⟩ = some (I s.wh) := hx.1
      have x2 : w0.cell? ⟨b, o + i * 4 + 1, none⟩ = some (I s.pl) := hx.2.1
      have x3 : w0.cell? ⟨b, o + i * 4 + 2, none⟩ = some (I s.ri) := hx.2.2.1
      have y1 : w0.cell? ⟨b, o + j * 4, none⟩ = some (I t.wh) := hy.1
      have y2 : w0.cell? ⟨b, o + j * 4 + 1, none⟩ = some (I t.pl) := hy.2.1
      have y3 : w0.cell? ⟨b, o + j * 4 + 2, none⟩ = some (I t.ri) := hy.2.2.1
      clear hx hy
      refine WP.skip ?_
      refine WP.seq ?_
      refine WP.block ?_
      refine WP.seq ?_
      refine WP.rstill mixed (by kernel_rfl) H ?_
      clear H; intro w hbw7 H
      refine OPS.val rfl rfl rfl (Ev.mvS rfl) ?_
      refine OPS.val rfl rfl rfl (Ev.mvI rfl) ?_
      refine OPS.val rfl rfl rfl ((by first | exact Ev.indexAddr1 (el_run rfl) (size_run rfl) rfl rfl rfl (by omega) | exact Ev.indexAddr (el_run rfl) (size_run rfl) rfl rfl rfl (by omega))) ?_
      refine OPS.val rfl rfl rfl (Ev.fieldAddr (fld_run rfl) rfl) ?_
      refine OPS.val rfl rfl rfl (Ev.load1 (agg_run rfl) rfl (by first | exact H.ldL 0 rfl _ rfl | exact H.ldL 1 rfl _ rfl | exact H.ldL 2 rfl _ rfl | exact H.ldL 3 rfl _ rfl | exact H.ldL 4 rfl _ rfl | exact H.ldL 5 rfl _ rfl | exact H.ldL 6 rfl _ rfl | exact H.ldL 7 rfl _ rfl | exact H.ld0 (by assumption) | assumption | exact H.ldS (by assumption) (by assumption))) ?_
      refine OPS.val rfl rfl rfl (Ev.mvS rfl) ?_
      refine OPS.val rfl rfl rfl (Ev.mvI rfl) ?_
      refine OPS.val rfl rfl rfl ((by first | exact Ev.indexAddr1 (el_run rfl) (size_run rfl) rfl rfl rfl (by omega) | exact Ev.indexAddr (el_run rfl) (size_run rfl) rfl rfl rfl (by omega))) ?_
      refine OPS.val rfl rfl rfl (Ev.fieldAddr (fld_run rfl) rfl) ?_
      refine OPS.val rfl rfl rfl (Ev.load1 (agg_run rfl) rfl (by first | exact H.ldL 0 rfl _ rfl | exact H.ldL 1 rfl _ rfl | exact H.ldL 2 rfl _ rfl | exact H.ldL 3 rfl _ rfl | exact H.ldL 4 rfl _ rfl | exact H.ldL 5 rfl _ rfl | exact H.ldL 6 rfl _ rfl | exact H.ldL 7 rfl _ rfl | exact H.ld0 (by assumption) | assumption | exact H.ldS (by assumption) (by assumption))) ?_
      refine OPS.val rfl rfl rfl (Ev.eql rfl rfl) ?_
      refine OPS.val rfl rfl rfl (Ev.mvB rfl) ?_
      refine OPS.gval rfl rfl rfl rfl rfl (fun hg => Ev.mvS (by first | rfl | exact gvE hg rfl)) ?_
      refine OPS.gval rfl rfl rfl rfl rfl (fun hg => Ev.mvI (by first | rfl | exact gvE hg rfl)) ?_
      refine OPS.gval rfl rfl rfl rfl rfl (fun hg => (by first | exact Ev.indexAddr1 (el_run rfl) (size_run rfl) (by first | rfl | exact gvE hg rfl) (by first | rfl | exact gvE hg rfl) rfl (by omega) | exact Ev.indexAddr (el_run rfl) (size_run rfl) (by first | rfl | exact gvE hg rfl) (by first | rfl | exact gvE hg rfl) rfl (by omega))) ?_
      refine OPS.gval rfl rfl rfl rfl rfl (fun hg => Ev.fieldAddr (fld_run rfl) (by first | rfl | exact gvE hg rfl)) ?_
      refine OPS.gval rfl rfl rfl rfl rfl (fun hg => Ev.load1 (agg_run rfl) (by first | rfl | exact gvE hg rfl) (by first | exact H.ldL 0 rfl _ rfl | exact H.ldL 1 rfl _ rfl | exact H.ldL 2 rfl _ rfl | exact H.ldL 3 rfl _ rfl | exact H.ldL 4 rfl _ rfl | exact H.ldL 5 rfl _ rfl | exact H.ldL 6 rfl _ rfl | exact H.ldL 7 rfl _ rfl | exact H.ld0 (by assumption) | assumption | exact H.ldS (by assumption) (by assumption))) ?_
      refine OPS.gval rfl rfl rfl rfl rfl (fun hg => Ev.eql (by first | rfl | exact gvE hg rfl) (by first | rfl | exact gvE hg rfl)) ?_
      refine OPS.gval rfl rfl rfl rfl rfl (fun hg => Ev.mvB (by first | rfl | exact gvE hg rfl)) ?_
      refine OPS.gvalN rfl rfl (GB.g rfl) rfl rfl (fun hg => Ev.mvS (by first | rfl | exact gvE hg rfl)) ?_
      refine OPS.gvalN rfl rfl (GB.g rfl) rfl rfl (fun hg => Ev.mvI (by first | rfl | exact gvE hg rfl)) ?_
      refine OPS.gvalN rfl rfl (GB.g rfl) rfl rfl (fun hg => (by first | exact Ev.indexAddr1 (el_run rfl) (size_run rfl) (by first | rfl | exact gvE hg rfl) (by first | rfl | exact gvE hg rfl) rfl (by omega) | exact Ev.indexAddr (el_run rfl) (size_run rfl) (by first | rfl | exact gvE hg rfl) (by first | rfl | exact gvE hg rfl) rfl (by omega))) ?_
      refine OPS.gvalN rfl rfl (GB.g rfl) rfl rfl (fun hg => Ev.fieldAddr (fld_run rfl) (by first | rfl | exact gvE hg rfl)) ?_
      refine OPS.gvalN rfl rfl (GB.g rfl) rfl rfl (fun hg => Ev.load1 (agg_run rfl) (by first | rfl | exact gvE hg rfl) (by first | exact H.ldL 0 rfl _ rfl | exact H.ldL 1 rfl _ rfl | exact H.ldL 2 rfl _ rfl | exact H.ldL 3 rfl _ rfl | exact H.ldL 4 rfl _ rfl | exact H.ldL 5 rfl _ rfl | exact H.ldL 6 rfl _ rfl | exact H.ldL 7 rfl _ rfl | exact H.ld0 (by assumption) | assumption | exact H.ldS (by assumption) (by assumption))) ?_
      refine OPS.gvalN rfl rfl (GB.g rfl) rfl rfl (fun hg => Ev.mvS (by first | rfl | exact gvE hg rfl)) ?_
      refine OPS.gvalN rfl rfl (GB.g rfl) rfl rfl (fun hg => Ev.mvI (by first | rfl | exact gvE hg rfl)) ?_
      refine OPS.gvalN rfl rfl (GB.g rfl) rfl rfl (fun hg => (by first | exact Ev.indexAddr1 (el_run rfl) (size_run rfl) (by first | rfl | exact gvE hg rfl) (by first | rfl | exact gvE hg rfl) rfl (by omega) | exact Ev.indexAddr (el_run rfl) (size_run rfl) (by first | rfl | exact gvE hg rfl) (by first | rfl | exact gvE hg rfl) rfl (by omega))) ?_
      refine OPS.gvalN rfl rfl (GB.g rfl) rfl rfl (fun hg => Ev.fieldAddr (fld_run rfl) (by first | rfl | exact gvE hg rfl)) ?_
      refine OPS.gvalN rfl rfl (GB.g rfl) rfl rfl (fun hg => Ev.load1 (agg_run rfl) (by first | rfl | exact gvE hg rfl) (by first | exact H.ldL 0 rfl _ rfl | exact H.ldL 1 rfl _ rfl | exact H.ldL 2 rfl _ rfl | exact H.ldL 3 rfl _ rfl | exact H.ldL 4 rfl _ rfl | exact H.ldL 5 rfl _ rfl | exact H.ldL 6 rfl _ rfl | exact H.ldL 7 rfl _ rfl | exact H.ld0 (by assumption) | assumption | exact H.ldS (by assumption) (by assumption))) ?_
      refine OPS.gvalN rfl rfl (GB.g rfl) rfl rfl (fun hg => Ev.eql (by first | rfl | exact gvE hg rfl) (by first | rfl | exact gvE hg rfl)) ?_
      refine OPS.gval rfl rfl rfl rfl rfl (fun hg => (by first | exact Ev.pickAnd2 (beqT hg) (gvE hg rfl) rfl rfl | exact Ev.pickOr2 (beqT hg) (gvE hg rfl) rfl rfl)) ?_
      refine OPS.gval rfl rfl rfl rfl rfl (fun hg => Ev.mvB (by first | rfl | exact gvE hg rfl)) ?_
      refine OPS.gvalN rfl rfl (GB.g rfl) rfl rfl (fun hg => Ev.mvS (by first | rfl | exact gvE hg rfl)) ?_
      refine OPS.gvalN rfl rfl (GB.g rfl) rfl rfl (fun hg => Ev.mvI (by first | rfl | exact gvE hg rfl)) ?_
      refine OPS.gvalN rfl rfl (GB.g rfl) rfl rfl (fun hg => (by first | exact Ev.indexAddr1 (el_run rfl) (size_run rfl) (by first | rfl | exact gvE hg rfl) (by first | rfl | exact gvE hg rfl) rfl (by omega) | exact Ev.indexAddr (el_run rfl) (size_run rfl) (by first | rfl | exact gvE hg rfl) (by first | rfl | exact gvE hg rfl) rfl (by omega))) ?_
      refine OPS.gvalN rfl rfl (GB.g rfl) rfl rfl (fun hg => Ev.fieldAddr (fld_run rfl) (by first | rfl | exact gvE hg rfl)) ?_
      refine OPS.gvalN rfl rfl (GB.g rfl) rfl rfl (fun hg => Ev.load1 (agg_run rfl) (by first | rfl | exact gvE hg rfl) (by first | exact H.ldL 0 rfl _ rfl | exact H.ldL 1 rfl _ rfl | exact H.ldL 2 rfl _ rfl | exact H.ldL 3 rfl _ rfl | exact H.ldL 4 rfl _ rfl | exact H.ldL 5 rfl _ rfl | exact H.ldL 6 rfl _ rfl | exact H.ldL 7 rfl _ rfl | exact H.ld0 (by assumption) | assumption | exact H.ldS (by assumption) (by assumption))) ?_
      refine OPS.gvalN rfl rfl (GB.g rfl) rfl rfl (fun hg => Ev.eql (by first | rfl | exact gvE hg rfl) (by first | rfl | exact gvE hg rfl)) ?_
      refine OPS.gvalN rfl rfl (GB.g rfl) rfl rfl (fun hg => Ev.mvB (by first | rfl | exact gvE hg rfl)) ?_
      refine OPS.gvalN rfl rfl (GB.g rfl) rfl rfl (fun hg => Ev.mvS (by first | rfl | exact gvE hg rfl)) ?_
      refine OPS.gvalN rfl rfl (GB.g rfl) rfl rfl (fun hg => Ev.mvI (by first | rfl | exact gvE hg rfl)) ?_
      refine OPS.gvalN rfl rfl (GB.g rfl) rfl rfl (fun hg => (by first | exact Ev.indexAddr1 (el_run rfl) (size_run rfl) (by first | rfl | exact gvE hg rfl) (by first | rfl | exact gvE hg rfl) rfl (by omega) | exact Ev.indexAddr (el_run rfl) (size_run rfl) (by first | rfl | exact gvE hg rfl) (by first | rfl | exact gvE hg rfl) rfl (by omega))) ?_
      refine OPS.gvalN rfl rfl (GB.g rfl) rfl rfl (fun hg => Ev.fieldAddr (fld_run rfl) (by first | rfl | exact gvE hg rfl)) ?_
      refine OPS.gvalN rfl rfl (GB.g rfl) rfl rfl (fun hg => Ev.load1 (agg_run rfl) (by first | rfl | exact gvE hg rfl) (by first | exact H.ldL 0 rfl _ rfl | exact H.ldL 1 rfl _ rfl | exact H.ldL 2 rfl _ rfl | exact H.ldL 3 rfl _ rfl | exact H.ldL 4 rfl _ rfl | exact H.ldL 5 rfl _ rfl | exact H.ldL 6 rfl _ rfl | exact H.ldL 7 rfl _ rfl | exact H.ld0 (by assumption) | assumption | exact H.ldS (by assumption) (by assumption))) ?_
      refine OPS.gvalN rfl rfl (GB.g rfl) rfl rfl (fun hg => Ev.mvS (by first | rfl | exact gvE hg rfl)) ?_
      refine OPS.gvalN rfl rfl (GB.g rfl) rfl rfl (fun hg => Ev.mvI (by first | rfl | exact gvE hg rfl)) ?_
      refine OPS.gvalN rfl rfl (GB.g rfl) rfl rfl (fun hg => (by first | exact Ev.indexAddr1 (el_run rfl) (size_run rfl) (by first | rfl | exact gvE hg rfl) (by first | rfl | exact gvE hg rfl) rfl (by omega) | exact Ev.indexAddr (el_run rfl) (size_run rfl) (by first | rfl | exact gvE hg rfl) (by first | rfl | exact gvE hg rfl) rfl (by omega))) ?_
      refine OPS.gvalN rfl rfl (GB.g rfl) rfl rfl (fun hg => Ev.fieldAddr (fld_run rfl) (by first | rfl | exact gvE hg rfl)) ?_
      refine OPS.gvalN rfl rfl (GB.g rfl) rfl rfl (fun hg => Ev.load1 (agg_run rfl) (by first | rfl | exact gvE hg rfl) (by first | exact H.ldL 0 rfl _ rfl | exact H.ldL 1 rfl _ rfl | exact H.ldL 2 rfl _ rfl | exact H.ldL 3 rfl _ rfl | exact H.ldL 4 rfl _ rfl | exact H.ldL 5 rfl _ rfl | exact H.ldL 6 rfl _ rfl | exact H.ldL 7 rfl _ rfl | exact H.ld0 (by assumption) | assumption | exact H.ldS (by assumption) (by assumption))) ?_
      refine OPS.gvalN rfl rfl (GB.g rfl) rfl rfl (fun hg => Ev.eql (by first | rfl | exact gvE hg rfl) (by first | rfl | exact gvE hg rfl)) ?_
      refine OPS.gvalN rfl rfl (GB.g rfl) rfl rfl (fun hg => (by first | exact Ev.pickAnd2 (beqT hg) (gvE hg rfl) rfl rfl | exact Ev.pickOr2 (beqT hg) (gvE hg rfl) rfl rfl)) ?_
      refine OPS.gval rfl rfl rfl rfl rfl (fun hg => (by first | exact Ev.pickAnd2 (beqT hg) (gvE hg rfl) rfl rfl | exact Ev.pickOr2 (beqT hg) (gvE hg rfl) rfl rfl)) ?_
      refine OPS.val rfl rfl rfl ((by first | exact Ev.pickOr rfl rfl rfl | exact Ev.pickAnd rfl rfl rfl)) ?_
      refine OPS.nil_s ?_
      refine WP.cond rfl (fun hc7 => ?_) (fun hc7 => ?_)
      · have hF : False := by
          refine hn ?_
          have h := hc7
          simp only [Bool.and_eq_true, Bool.or_eq_true, decide_eq_true_eq] at h
          exact ⟨h.1, by
            rcases h.2 with h1 | h1
            · exact .inl h1
            · exact .inr h1⟩
        refine WP.seq ?_
        refine WP.region ?_
        refine OPS.val rfl rfl rfl (Ev.asB rfl) ?_
        refine OPS.nil ?_
        refine WP.ret ⟨_, rfl, ?_⟩
        exact hF.elim
      refine WP.skip ?_
      refine WP.region ?_
      refine OPS.val rfl rfl rfl (Ev.mvI rfl) ?_
      refine OPS.val rfl rfl rfl (Ev.add rfl rfl (by unfold fits; omega)) ?_
      refine OPS.val rfl rfl rfl (Ev.asI rfl) ?_
      refine OPS.nil ?_
      exact ⟨(by repeat (first | exact Agree.refl _ _ | exact Agree.mix _ _ _ | refine Agree.upd rfl ?_ | refine Agree.mix2 rfl ?_)), k2 - 1, by omega, j + 1, by omega, rfl, H⟩
    refine WP.exit ?_
    refine XB.hit ?_
    refine WP.region ?_
    refine OPS.val rfl rfl rfl (Ev.mvI rfl) ?_
    refine OPS.val rfl rfl rfl (Ev.add rfl rfl (by unfold fits; omega)) ?_
    refine OPS.val rfl rfl rfl (Ev.asI rfl) ?_
    refine OPS.nil ?_
    exact ⟨(by repeat (first | exact Agree.refl _ _ | exact Agree.mix _ _ _ | refine Agree.upd rfl ?_ | refine Agree.mix2 rfl ?_)), k - 1, by omega, i + 1, by omega, rfl, H⟩
  refine WP.exit ?_
  refine XB.hit ?_
  refine WP.seq ?_
  refine WP.region ?_
  refine OPS.val rfl rfl rfl (Ev.asB rfl) ?_
  refine OPS.nil ?_
  refine WP.ret ⟨_, rfl, ?_⟩
  exact ⟨rfl, H.below⟩
end Go.Proofs.Ytchjbjplddhknaa

/-
  Plain: the spots of all bicycles at a moment; the walks of TopWhereabouts where it looks at no event.
-/
set_option linter.all false
namespace Go.Proofs.Ytchjbjplddhknaa
open Go Go.W Go.RowKit

theorem inv_fold {τ : Type} {f : Flt} {vis : τ → Sta → Evt → Int → τ} : ∀ (es : List Evt) (v : Sta × τ), Inv v.1 → (v.1.sp.length : Int) = f.bk → Inv (es.foldl (stG f vis) v).1 ∧ ((es.foldl (stG f vis) v).1.sp.length : Int) = f.bk
  | [], _, h, hl => ⟨h, hl⟩
  | x :: es, v, h, hl => by
    refine inv_fold es (stG f vis v x) ?_ ?_
    · unfold stG
      split
      · exact h
      · exact h.stepS hl
    · unfold stG
      split
      · exact hl
      · show ((stepS f v.1 x).sp.length : Int) = f.bk
        rw [stepS_len]; exact hl
theorem flErr_bk {f : Flt} (h : flErr f = 0) : 1 ≤ f.bk ∧ f.bk ≤ 128 := by
  rw [flErr] at h
  split at h
  · cases h
  · rename_i hn
    simp [wIn, and_assoc] at hn
    omega
theorem spS_inv (f : Flt) (es : List Evt) (h0 : flErr f = 0) : (∀ i j, ∀ hi : i < (spS f es).length, ∀ hj : j < (spS f es).length, i ≠ j → ¬ Conf (spS f es)[i] (spS f es)[j]) ∧ ((spS f es).length : Int) = f.bk := by
  have hb := flErr_bk h0
  have h := inv_fold (f := f) (vis := fun (_ : Unit) _ _ _ => ()) es (beg f, ()) (Inv.beg f) (by show ((List.replicate f.bk.toNat shop).length : Int) = f.bk; rw [List.length_replicate]; omega)
  exact ⟨h.1.one, h.2⟩
theorem atE_zero {f : Flt} {t : Int} (h : atE f t = 0) : flErr f = 0 ∧ 0 ≤ t ∧ t ≤ 4294943999 := by
  unfold atE at h
  split at h
  · rename_i h1; exact absurd h h1
  · rename_i h1
    split at h
    · cases h
    · rename_i h2; exact ⟨by simpa using h1, by omega, by omega⟩
/-- the spots of the first j bicycles -/
def spotL (f : Flt) (es : List Evt) (t : Int) (j : Nat) : List Spt := if atE f t = 0 then (spS f (upto t es)).take j else []
theorem spotL_no {f : Flt} {es : List Evt} {t : Int} {j : Nat} (h : atE f t ≠ 0) : spotL f es t j = [] := if_neg h
theorem spotL_succ {f : Flt} {es : List Evt} {t : Int} {j : Nat} (h : atE f t = 0) (hj : (j : Int) < f.bk) : spotL f es t (j + 1) = spotL f es t j ++ [atS f es j t] := by
  have hl := (spS_inv f (upto t es) (atE_zero h).1).2
  have hjl : j < (spS f (upto t es)).length := by omega
  rw [spotL, if_pos h, spotL, if_pos h, List.take_succ_eq_append_getElem hjl, atS, if_pos h, List.getD_eq_getElem?_getD, List.getElem?_eq_getElem hjl]
  rfl
theorem spotL_len {f : Flt} {es : List Evt} {t : Int} {j : Nat} : (spotL f es t j).length ≤ j := by
  unfold spotL
  split
  · exact List.length_take_le _ _
  · simp
theorem spotL_conf {f : Flt} {es : List Evt} {t : Int} {k : Nat} : ∀ i j, ∀ hi : i < (spotL f es t k).length, ∀ hj : j < (spotL f es t k).length, i ≠ j → ¬ Conf (spotL f es t k)[i] (spotL f es t k)[j] := by
  by_cases h : atE f t = 0
  · have h1 : spotL f es t k = (spS f (upto t es)).take k := if_pos h
    rw [h1]
    intro i j hi hj hij
    rw [List.getElem_take, List.getElem_take]
    exact (spS_inv f (upto t es) (atE_zero h).1).1 i j (by simp at hi; omega) (by simp at hj; omega) hij
  · have h1 : spotL f es t k = [] := if_neg h
    rw [h1]
    intro i j hi
    simp at hi
theorem cntT_succ {t : Int} {l : List Sty} {j : Nat} (h : j < l.length) : cntT t (l.take (j + 1)) = cntT t (l.take j) + (if (decide (l[j].fr ≤ t) && decide (t < l[j].to)) = true then 1 else 0) := by
  unfold cntT
  rw [List.take_succ_eq_append_getElem h, List.countP_append]
  simp [List.countP_cons]
theorem cntT_le {t : Int} {l : List Sty} : cntT t l ≤ l.length := List.countP_le_length
section
variable {w w' w0 : World} {S : List Nat} {L : List Blk}
theorem OwnS.rowsG {α : Type} {enc : α → List Value} {el sz : Nat} (hsz : ∀ x, (enc x).length = sz) {A : Option Addr} {c : Nat} {es : List α} {Lo : List Blk} (h : OwnS A c es.length (es.flatMap enc) el sz Lo) (H : SH w0 S w L) (hs : ∀ b ∈ Lo, b ∈ L) : RowsAt sz enc w A es := by
  rcases h.form with ⟨_, h0, _⟩ | ⟨g, sp, rfl, rfl, _⟩
  · have : es = [] := List.length_eq_zero_iff.1 h0
    subst this; exact RowsAt.nil
  · obtain ⟨i, hi⟩ := List.getElem?_of_mem (hs ⟨g, el, es.flatMap enc ++ sp⟩ (by simp))
    exact rowsOwn (enc := enc) (sz := sz) (l := es) (post := sp) hsz H i hi
theorem OwnS.tagG {A : Option Addr} {c n el sz : Nat} {xs : List Value} {Lo : List Blk} (h : OwnS A c n xs el sz Lo) : ∀ b ∈ Lo, b.T = el := by
  rcases h.form with ⟨_, _, _, rfl⟩ | ⟨g, sp, rfl, rfl, _⟩
  · simp
  · simp
theorem OwnS.cap0 {A : Option Addr} {c n el sz : Nat} {xs : List Value} {Lo : List Blk} (h : OwnS A c n xs el sz Lo) : A = none → c = 0 := by
  rintro rfl
  rcases h.form with ⟨_, _, h, _⟩ | ⟨_, _, h, _⟩
  · exact h
  · cases h
end
theorem stays_len (f : Flt) (b : Nat) (es : List Evt) : (staysL f b es).length ≤ es.length + 1 := by
  have key : ∀ j, j ≤ es.length → (runG f (visV b) (now0 b, []) (es.take j)).2.2.length ≤ j := by
    intro j
    induction j with
    | zero => intro _; exact Nat.le_refl _
    | succ j ih =>
      intro hj
      rw [runG_succ (by omega)]
      have ih := ih (by omega)
      unfold stG
      split
      · omega
      · have := visS_len b ((stepS f (runG f (visV b) (now0 b, []) (es.take j)).1 es[j]).sp.getD b default) es[j] (errS f (runG f (visV b) (now0 b, []) (es.take j)).1 es[j]) (runG f (visV b) (now0 b, []) (es.take j)).2
        show (visS _ _ _ _ _).2.length ≤ j + 1
        omega
  have h := key es.length (Nat.le_refl _)
  rw [List.take_length] at h
  unfold staysL
  split
  · exact Nat.le_trans (endO_len _ _ _) (by unfold staysV; omega)
  · simp
theorem placeAwakeB (w0 : World) : Calls Try.prog 5 #[] w0 fun e w' => e = .returned (.bool true) ∧ Below w0.heap.size w0 w' := (placeAwake w0).mono fun e w' ⟨h1, h2⟩ => ⟨h1, h2.below⟩
theorem topMany (f : Flt) (A : Option Addr) (ca : Nat) (B : Option Addr) (cb : Nat) (El : Option Addr) (m ce : Nat) (parts t : Int) (w0 : World) (hb : (!((decide ((m : Int) ≤ 40) && decide ((f.ds.length : Int) ≤ 40)) && decide ((f.ts.length : Int) ≤ 20)) || decide (16 < f.bk)) = true) :
    Calls Try.prog 3 #[.agg (flC f A ca B cb).toArray, .slice El m ce, .int .u64 parts, I t] w0 fun e w' => e = .returned (.bool true) ∧ Below w0.heap.size w0 w' := by
  have H := SH.refl w0
  unfold flC
  refine Calls.ofWP Try.func3 rfl Try.results3 Try.ntmps3 rfl ?_
  refine WP.seq ?_
  refine WP.region ?_
  refine OPS.box rfl rfl rfl rfl (cA rfl) H ?_
  clear H; intro g4 w H
  refine OPS.val rfl rfl rfl (Ev.asB rfl) ?_
  refine OPS.nil ?_
  refine WP.seq ?_
  refine WP.seq ?_
  refine WP.region ?_
  refine OPS.val rfl rfl rfl ((by first | exact Ev.loadO 0 H rfl (agg_run rfl) (size_run rfl) (by first | assumption | rfl) rfl | exact Ev.loadO 1 H rfl (agg_run rfl) (size_run rfl) (by first | assumption | rfl) rfl | exact Ev.loadO 2 H rfl (agg_run rfl) (size_run rfl) (by first | assumption | rfl) rfl | exact Ev.loadO 3 H rfl (agg_run rfl) (size_run rfl) (by first | assumption | rfl) rfl | exact Ev.loadO 4 H rfl (agg_run rfl) (size_run rfl) (by first | assumption | rfl) rfl | exact Ev.loadO 5 H rfl (agg_run rfl) (size_run rfl) (by first | assumption | rfl) rfl | exact Ev.loadO 6 H rfl (agg_run rfl) (size_run rfl) (by first | assumption | rfl) rfl | (change Ev _ _ _ _ (Op.load 24 (Operand.tmp 4)) _; fail))) ?_
  refine OPS.val rfl rfl rfl (Ev.mvS rfl) ?_
  refine OPS.call (d := some 26) rfl rfl rfl (EvC.func (fun_run rfl)) (few f A ca B cb El m ce _) ?_
  rintro _ w ⟨rfl, hb⟩
  refine ⟨_, rfl, ?_⟩
  replace H := H.toBelow hb; clear hb
  refine OPS.val rfl rfl rfl (Ev.not rfl) ?_
  refine OPS.val rfl rfl rfl (Ev.mvB rfl) ?_
  refine OPS.gval rfl rfl rfl rfl rfl (fun hg => Ev.fieldAddr (fld_run rfl) (by first | rfl | exact gvE hg rfl)) ?_
  refine OPS.gval rfl rfl rfl rfl rfl (fun hg => Ev.load1 (agg_run rfl) (by first | rfl | exact gvE hg rfl) (by first | exact H.ldL 0 rfl _ rfl | exact H.ldL 1 rfl _ rfl | exact H.ldL 2 rfl _ rfl | exact H.ldL 3 rfl _ rfl | exact H.ldL 4 rfl _ rfl | exact H.ldL 5 rfl _ rfl | exact H.ldL 6 rfl _ rfl | exact H.ldL 7 rfl _ rfl | exact H.ld0 (by assumption) | assumption | exact H.ldS (by assumption) (by assumption))) ?_
  refine OPS.gval rfl rfl rfl rfl rfl (fun hg => Ev.gtr (by first | rfl | exact gvE hg rfl) (by first | rfl | exact gvE hg rfl)) ?_
  refine OPS.val rfl rfl rfl ((by first | exact Ev.pickOr rfl rfl rfl | exact Ev.pickAnd rfl rfl rfl)) ?_
  refine OPS.nil ?_
  refine WP.cond rfl (fun hc1 => ?_) (fun hc1 => ?_)
  · refine WP.seq ?_
    refine WP.region ?_
    refine OPS.call (d := some 33) rfl rfl rfl (EvC.func (fun_run rfl)) (placeAwakeB _) ?_
    rintro _ w ⟨rfl, hb⟩
    refine ⟨_, rfl, ?_⟩
    replace H := H.toBelow hb; clear hb
    refine OPS.val rfl rfl rfl (Ev.asB rfl) ?_
    refine OPS.nil ?_
    refine WP.ret ⟨_, rfl, ?_⟩
    exact ⟨rfl, H.below⟩
  refine WP.skip ?_
  refine WP.seq ?_
  exact absurd (hb.symm.trans hc1) (by simp)
theorem topBad (f : Flt) (A : Option Addr) (ca : Nat) (B : Option Addr) (cb : Nat) (El : Option Addr) (m ce : Nat) (parts t : Int) (w0 : World) (hb : (!((decide ((m : Int) ≤ 40) && decide ((f.ds.length : Int) ≤ 40)) && decide ((f.ts.length : Int) ≤ 20)) || decide (16 < f.bk)) = false) (hd : f.dv < 1 ∨ 256 < f.dv) :
    Calls Try.prog 3 #[.agg (flC f A ca B cb).toArray, .slice El m ce, .int .u64 parts, I t] w0 fun e w' => e = .returned (.bool true) ∧ Below w0.heap.size w0 w' := by
  have H := SH.refl w0
  unfold flC
  refine Calls.ofWP Try.func3 rfl Try.results3 Try.ntmps3 rfl ?_
  refine WP.seq ?_
  refine WP.region ?_
  refine OPS.box rfl rfl rfl rfl (cA rfl) H ?_
  clear H; intro g4 w H
  refine OPS.val rfl rfl rfl (Ev.asB rfl) ?_
  refine OPS.nil ?_
  refine WP.seq ?_
  refine WP.seq ?_
  refine WP.region ?_
  refine OPS.val rfl rfl rfl ((by first | exact Ev.loadO 0 H rfl (agg_run rfl) (size_run rfl) (by first | assumption | rfl) rfl | exact Ev.loadO 1 H rfl (agg_run rfl) (size_run rfl) (by first | assumption | rfl) rfl | exact Ev.loadO 2 H rfl (agg_run rfl) (size_run rfl) (by first | assumption | rfl) rfl | exact Ev.loadO 3 H rfl (agg_run rfl) (size_run rfl) (by first | assumption | rfl) rfl | exact Ev.loadO 4 H rfl (agg_run rfl) (size_run rfl) (by first | assumption | rfl) rfl | exact Ev.loadO 5 H rfl (agg_run rfl) (size_run rfl) (by first | assumption | rfl) rfl | exact Ev.loadO 6 H rfl (agg_run rfl) (size_run rfl) (by first | assumption | rfl) rfl | (change Ev _ _ _ _ (Op.load 24 (Operand.tmp 4)) _; fail))) ?_
  refine OPS.val rfl rfl rfl (Ev.mvS rfl) ?_
  refine OPS.call (d := some 26) rfl rfl rfl (EvC.func (fun_run rfl)) (few f A ca B cb El m ce _) ?_
  rintro _ w ⟨rfl, hb⟩
  refine ⟨_, rfl, ?_⟩
  replace H := H.toBelow hb; clear hb
  refine OPS.val rfl rfl rfl (Ev.not rfl) ?_
  refine OPS.val rfl rfl rfl (Ev.mvB rfl) ?_
  refine OPS.gval rfl rfl rfl rfl rfl (fun hg => Ev.fieldAddr (fld_run rfl) (by first | rfl | exact gvE hg rfl)) ?_
  refine OPS.gval rfl rfl rfl rfl rfl (fun hg => Ev.load1 (agg_run rfl) (by first | rfl | exact gvE hg rfl) (by first | exact H.ldL 0 rfl _ rfl | exact H.ldL 1 rfl _ rfl | exact H.ldL 2 rfl _ rfl | exact H.ldL 3 rfl _ rfl | exact H.ldL 4 rfl _ rfl | exact H.ldL 5 rfl _ rfl | exact H.ldL 6 rfl _ rfl | exact H.ldL 7 rfl _ rfl | exact H.ld0 (by assumption) | assumption | exact H.ldS (by assumption) (by assumption))) ?_
  refine OPS.gval rfl rfl rfl rfl rfl (fun hg => Ev.gtr (by first | rfl | exact gvE hg rfl) (by first | rfl | exact gvE hg rfl)) ?_
  refine OPS.val rfl rfl rfl ((by first | exact Ev.pickOr rfl rfl rfl | exact Ev.pickAnd rfl rfl rfl)) ?_
  refine OPS.nil ?_
  refine WP.cond rfl (fun hc1 => ?_) (fun hc1 => ?_)
  · refine WP.seq ?_
    exact absurd (hb.symm.trans hc1) (by simp)
  refine WP.skip ?_
  refine WP.seq ?_
  refine WP.region ?_
  refine OPS.val rfl rfl rfl (Ev.fieldAddr (fld_run rfl) rfl) ?_
  refine OPS.val rfl rfl rfl (Ev.load1 (agg_run rfl) rfl (by first | exact H.ldL 0 rfl _ rfl | exact H.ldL 1 rfl _ rfl | exact H.ldL 2 rfl _ rfl | exact H.ldL 3 rfl _ rfl | exact H.ldL 4 rfl _ rfl | exact H.ldL 5 rfl _ rfl | exact H.ldL 6 rfl _ rfl | exact H.ldL 7 rfl _ rfl | exact H.ld0 (by assumption) | assumption | exact H.ldS (by assumption) (by assumption))) ?_
  refine OPS.val rfl rfl rfl (Ev.mvS rfl) ?_
  refine OPS.val rfl rfl rfl (Ev.mvI rfl) ?_
  refine OPS.call (d := some 39) rfl rfl rfl (EvC.func (fun_run rfl)) (splitBad f.dv hd El m ce parts _) ?_
  rintro _ w ⟨rfl, Hc⟩
  refine ⟨_, rfl, ?_⟩
  replace H := H.toBelow Hc.below
  refine OPS.val rfl rfl rfl (Ev.mvT rfl) ?_
  refine OPS.val rfl rfl rfl (Ev.extract rfl rfl) ?_
  refine OPS.val rfl rfl rfl (Ev.extract rfl rfl) ?_
  refine OPS.alloc rfl rfl rfl rfl (zero_run rfl) rfl H ?_
  clear H; intro g9 w H
  first | refine OPS.store 0 _ rfl rfl rfl (size_run rfl) rfl (cA rfl) rfl rfl H rfl (by simp) ?_ | refine OPS.store 1 _ rfl rfl rfl (size_run rfl) rfl (cA rfl) rfl rfl H rfl (by simp) ?_ | refine OPS.store 2 _ rfl rfl rfl (size_run rfl) rfl (cA rfl) rfl rfl H rfl (by simp) ?_ | refine OPS.store 3 _ rfl rfl rfl (size_run rfl) rfl (cA rfl) rfl rfl H rfl (by simp) ?_ | refine OPS.store 4 _ rfl rfl rfl (size_run rfl) rfl (cA rfl) rfl rfl H rfl (by simp) ?_ | refine OPS.store 5 _ rfl rfl rfl (size_run rfl) rfl (cA rfl) rfl rfl H rfl (by simp) ?_ | refine OPS.store 6 _ rfl rfl rfl (size_run rfl) rfl (cA rfl) rfl rfl H rfl (by simp) ?_ | refine OPS.store 7 _ rfl rfl rfl (size_run rfl) rfl (cA rfl) rfl rfl H rfl (by simp) ?_ | refine OPS.store 8 _ rfl rfl rfl (size_run rfl) rfl (cA rfl) rfl rfl H rfl (by simp) ?_
  clear H; intro w H; try simp only [List.set_cons_zero, List.set_cons_succ, putL, Nat.zero_add] at H
  refine OPS.val rfl rfl rfl (Ev.asB rfl) ?_
  refine OPS.nil ?_
  refine WP.seq ?_
  refine WP.seq ?_
  refine WP.region ?_
  refine OPS.val rfl rfl rfl (Ev.mvB rfl) ?_
  refine OPS.val rfl rfl rfl (Ev.not rfl) ?_
  refine OPS.nil ?_
  refine WP.cond rfl (fun hc4 => ?_) (fun hc4 => ?_)
  · refine WP.seq ?_
    refine WP.region ?_
    refine OPS.val rfl rfl rfl (Ev.fieldAddr (fld_run rfl) rfl) ?_
    refine OPS.val rfl rfl rfl (Ev.load1 (agg_run rfl) rfl (by first | exact H.ldL 0 rfl _ rfl | exact H.ldL 1 rfl _ rfl | exact H.ldL 2 rfl _ rfl | exact H.ldL 3 rfl _ rfl | exact H.ldL 4 rfl _ rfl | exact H.ldL 5 rfl _ rfl | exact H.ldL 6 rfl _ rfl | exact H.ldL 7 rfl _ rfl | exact H.ld0 (by assumption) | assumption | exact H.ldS (by assumption) (by assumption))) ?_
    refine OPS.val rfl rfl rfl (Ev.lss rfl rfl) ?_
    refine OPS.val rfl rfl rfl (Ev.mvB rfl) ?_
    refine OPS.gval rfl rfl rfl rfl rfl (fun hg => Ev.fieldAddr (fld_run rfl) (by first | rfl | exact gvE hg rfl)) ?_
    refine OPS.gval rfl rfl rfl rfl rfl (fun hg => Ev.load1 (agg_run rfl) (by first | rfl | exact gvE hg rfl) (by first | exact H.ldL 0 rfl _ rfl | exact H.ldL 1 rfl _ rfl | exact H.ldL 2 rfl _ rfl | exact H.ldL 3 rfl _ rfl | exact H.ldL 4 rfl _ rfl | exact H.ldL 5 rfl _ rfl | exact H.ldL 6 rfl _ rfl | exact H.ldL 7 rfl _ rfl | exact H.ld0 (by assumption) | assumption | exact H.ldS (by assumption) (by assumption))) ?_
    refine OPS.gval rfl rfl rfl rfl rfl (fun hg => Ev.gtr (by first | rfl | exact gvE hg rfl) (by first | rfl | exact gvE hg rfl)) ?_
    refine OPS.val rfl rfl rfl ((by first | exact Ev.pickOr rfl rfl rfl | exact Ev.pickAnd rfl rfl rfl)) ?_
    refine OPS.val rfl rfl rfl (Ev.mvB rfl) ?_
    refine OPS.gcall0 (f := 5) (placeAwakeB _) (fun _ _ h => h) rfl rfl rfl rfl rfl (fun hg => (EvC.func (fun_run rfl))) ?_
    intro w hbc; replace H := H.toBelow hbc
    refine OPS.val rfl rfl rfl ((by first | exact Ev.pickOr rfl rfl rfl | exact Ev.pickAnd rfl rfl rfl)) ?_
    refine OPS.val rfl rfl rfl (Ev.asB rfl) ?_
    refine OPS.nil ?_
    refine WP.ret ⟨_, rfl, ?_⟩
    refine ⟨?_, H.below⟩
    have : (decide (f.dv < 1) || decide (256 < f.dv)) = true := by simpa using hd
    rw [this]; rfl
  refine WP.skip ?_
  refine WP.seq ?_
  simp at hc4
end Go.Proofs.Ytchjbjplddhknaa
