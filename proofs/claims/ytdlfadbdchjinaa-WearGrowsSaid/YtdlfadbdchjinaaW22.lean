/-
  Walk: the examples of the chapter.
-/
import Derived.Test.YtdlfadbdchjinaaW21
set_option linter.all false
namespace Go.Proofs.Ytdlfadbdchjinaa
open Go Go.W Go.RowKit

theorem lawSample (w0 : World) : Calls Try.prog 23 #[] w0 fun e w' => ∃ g1 g2 g3 ga gb, e = .returned (.agg (useL (some ⟨g1, 0, none⟩) (some ⟨g2, 0, none⟩) (some ⟨g3, 0, none⟩) 2 2 2 2 2 2 5 0).toArray) ∧ SH w0 [] w' [⟨g3, 50, rideCells (xRide 1 1000 100 ga) ++ rideCells (xRide 2 2000 250 gb)⟩, ⟨gb, 54, [I 5, I 2000, I 2000, I 2250, I 2250]⟩, ⟨ga, 54, [I 5, I 1000, I 1000, I 1100, I 1100]⟩, ⟨g2, 3, [I 10, I 100]⟩, ⟨g1, 3, [I 3600, I 0]⟩] := by
  have H := SH.refl w0
  refine Calls.ofWPc Try.func23 rfl Try.results23 Try.ntmps23 rfl ?_
  refine WP.seq ?_
  refine WP.region ?_
  refine OPS.alloc rfl rfl rfl rfl (zero_run rfl) rfl H ?_
  clear H; intro g0 w H
  refine OPS.nil ?_
  refine WP.seq ?_
  refine WP.region ?_
  refine OPS.buildSlice rfl rfl rfl rfl (bsl_22_2_0_1 rfl rfl) H ?_
  clear H; intro g1 w H
  refine OPS.buildSlice rfl rfl rfl rfl (bsl_22_2_0_1 rfl rfl) H ?_
  clear H; intro g2 w H
  refine OPS.val rfl rfl rfl (Ev.build (bld_24_0_1 rfl rfl)) ?_
  refine OPS.call (d := some 4) rfl rfl rfl (EvC.func (fun_run rfl)) (lawRide 1 1000 100 w (by omega) (by omega)) ?_
  rintro _ w ⟨ga, rfl, Hc⟩
  refine ⟨_, rfl, ?_⟩
  replace H := SH.call (Lv := []) (by rw [List.append_nil]; exact H) Hc
  clear Hc
  simp only [List.cons_append, List.nil_append] at H
  refine OPS.call (d := some 5) rfl rfl rfl (EvC.func (fun_run rfl)) (lawRide 2 2000 250 w (by omega) (by omega)) ?_
  rintro _ w ⟨gb, rfl, Hc⟩
  refine ⟨_, rfl, ?_⟩
  replace H := SH.call (Lv := []) (by rw [List.append_nil]; exact H) Hc
  clear Hc
  simp only [List.cons_append, List.nil_append] at H
  refine OPS.buildSlice rfl rfl rfl rfl (bsl_25_2_0_1 rfl rfl) H ?_
  clear H; intro g6 w H
  refine OPS.val rfl rfl rfl (Ev.build (bld_27_0_1_2 rfl rfl rfl)) ?_
  first | refine OPS.store 0 _ rfl rfl rfl (size_run rfl) rfl (cA rfl) rfl rfl H rfl (by simp) ?_ | refine OPS.store 1 _ rfl rfl rfl (size_run rfl) rfl (cA rfl) rfl rfl H rfl (by simp) ?_ | refine OPS.store 2 _ rfl rfl rfl (size_run rfl) rfl (cA rfl) rfl rfl H rfl (by simp) ?_ | refine OPS.store 3 _ rfl rfl rfl (size_run rfl) rfl (cA rfl) rfl rfl H rfl (by simp) ?_ | refine OPS.store 4 _ rfl rfl rfl (size_run rfl) rfl (cA rfl) rfl rfl H rfl (by simp) ?_ | refine OPS.store 5 _ rfl rfl rfl (size_run rfl) rfl (cA rfl) rfl rfl H rfl (by simp) ?_ | refine OPS.store 6 _ rfl rfl rfl (size_run rfl) rfl (cA rfl) rfl rfl H rfl (by simp) ?_ | refine OPS.store 7 _ rfl rfl rfl (size_run rfl) rfl (cA rfl) rfl rfl H rfl (by simp) ?_ | refine OPS.store 8 _ rfl rfl rfl (size_run rfl) rfl (cA rfl) rfl rfl H rfl (by simp) ?_
  clear H; intro w H; try simp only [List.set_cons_zero, List.set_cons_succ, putL, Nat.zero_add] at H
  refine OPS.nil ?_
  refine WP.ret ⟨[_], ⟨(by first | exact resCellA 0 H rfl (agg_run rfl) (size_run rfl) (by first | assumption | rfl) rfl | exact resCellA 1 H rfl (agg_run rfl) (size_run rfl) (by first | assumption | rfl) rfl | exact resCellA 2 H rfl (agg_run rfl) (size_run rfl) (by first | assumption | rfl) rfl | exact resCellA 3 H rfl (agg_run rfl) (size_run rfl) (by first | assumption | rfl) rfl | exact resCellA 4 H rfl (agg_run rfl) (size_run rfl) (by first | assumption | rfl) rfl | exact resCellA 5 H rfl (agg_run rfl) (size_run rfl) (by first | assumption | rfl) rfl | exact resCellA 6 H rfl (agg_run rfl) (size_run rfl) (by first | assumption | rfl) rfl), trivial⟩, ?_⟩
  exact ⟨g1, g2, g6, ga, gb, rfl, H.reidx [0, 5, 4, 1, 2] (by decide) rfl⟩
def xR (ga gb : Nat) : List Ride := [xRide 1 1000 100 ga, xRide 2 2000 250 gb]
theorem xErr (ga gb : Nat) (k f t : Int) (hk : k = 0 ∨ k = 1) (hf : f = 0) (ht : t = 5000 ∨ t = 4294944000) : ofErr [3600, 0] [10, 100] (xR ga gb) 5 k f t = 0 := by
  subst hf
  rcases hk with rfl | rfl <;> rcases ht with rfl | rfl <;> rfl
theorem xVal0 (ga gb : Nat) : ofVal [3600, 0] [10, 100] (xR ga gb) 5 0 0 5000 = 370 := rfl
theorem xVal1 (ga gb : Nat) : ofVal [3600, 0] [10, 100] (xR ga gb) 5 1 0 5000 = 200 := rfl
theorem xAts (ga gb : Nat) : atsL 5 0 (xR ga gb) = [0, 1001, 2001] := rfl
theorem xReachO (ga gb : Nat) : reachO [3600, 0] [10, 100] (xR ga gb) 5 0 0 111 = some 2001 := reachO_min ⟨by rw [xAts]; simp, rfl, fun x hx hp => by
  rw [xAts] at hx
  simp only [List.mem_cons, List.not_mem_nil, or_false] at hx
  rcases hx with rfl | rfl | rfl
  · exact absurd hp (by rw [show (decide ((111 : Int) ≤ wAt [3600, 0] [10, 100] (xR ga gb) 5 0 0 0)) = false from rfl]; simp)
  · exact absurd hp (by rw [show (decide ((111 : Int) ≤ wAt [3600, 0] [10, 100] (xR ga gb) 5 0 0 1001)) = false from rfl]; simp)
  · exact Int.le_refl _⟩
theorem xReach (ga gb : Nat) : reachErr [3600, 0] [10, 100] (xR ga gb) 5 0 0 111 = 0 ∧ reachVal [3600, 0] [10, 100] (xR ga gb) 5 0 0 111 = 2001 := by
  have h1 : reachErr [3600, 0] [10, 100] (xR ga gb) 5 0 0 111 = 0 := by rw [reachErr, if_neg (by rw [xErr ga gb 0 0 _ (.inl rfl) rfl (.inr rfl)]; simp), if_neg (by omega), xReachO]; rfl
  exact ⟨h1, by rw [reachVal, if_pos h1, xReachO]; rfl⟩
theorem xMost (ga gb : Nat) : mostErr [3600, 0] [10, 100] (xR ga gb) 5 0 5000 = 0 ∧ mostL [3600, 0] [10, 100] (xR ga gb) 5 0 5000 = [0] := ⟨rfl, rfl⟩
theorem xCheck : wearErr [] [] = 3 := rfl
end Go.Proofs.Ytdlfadbdchjinaa
