/-
  Walks: the edges of a polygon; whether they are simple.
-/
import Derived.Test.YtkfklebaeifdnaaF2
set_option linter.all false
namespace Go.Proofs.Ytkfklebaeifdnaa
open Go Go.W Go.RowKit

theorem intEq (d : Nat) (a b : Int) (w : World) : (Op.equalIn (d + 1) 3 (I a) (I b)).run Try.prog w = .ok (a == b) w := by
  rw [Op.equalIn]
  simp only [Sem.run_bind, Try.runUnderlying3, Result.andThen_ok]
  simp [Sem.run_pure]
theorem prog_run (w : World) : (program).run Try.prog w = .ok Try.prog w := rfl
theorem eqG36 : Try.prog.eqGuardType Try.prog.depth 36 = false := by kernel_rfl
theorem eqS36 (a b c d : Int) : ∀ w, (Op.equal 36 (.agg #[I a, I b]) (.agg #[I c, I d])).run Try.prog w = .ok (decide (a = c) && decide (b = d)) w := by
  intro w
  have hs : Try.prog.stoodInHeld 36 = false := by kernel_rfl
  unfold Op.equal Op.maxDepth
  rw [Op.equalIn]
  simp only [Sem.run_bind, Try.runUnderlying36, Result.andThen_ok, prog_run, hs]
  simp [part, Try.isAgg3, Sem.run_bind, Sem.run_pure, intEq]
  by_cases h1 : a = c <;> by_cases h2 : b = d <;> simp [h1, h2]
theorem ptEq (p q : Pt) : (decide (p.x = q.x) && decide (p.y = q.y)) = decide (p = q) := by
  rw [Bool.eq_iff_iff]; cases p; cases q; simp
structure PtsAt (w : World) (A : Option Addr) (l : List Pt) : Prop where
  rows : RowsAt 2 ptCells w A l
theorem modCast (i n : Nat) : ((i : Int) + 1).tmod (n : Int) = (((i + 1) % n : Nat) : Int) := by
  rw [Int.tmod_eq_emod_of_nonneg (by omega), Int.natCast_emod]; rfl
theorem modCast2 (i n : Nat) : ((i : Int) + 1) % (n : Int) = (((i + 1) % n : Nat) : Int) := by
  rw [Int.natCast_emod]; rfl
theorem edgesL_take {l : List Pt} {j : Nat} (h : j < l.length) : (edgesL l).take (j + 1) = (edgesL l).take j ++ [edgeAt l j] := by
  rw [List.take_succ_eq_append_getElem (by rw [edgesL_len]; exact h), edgesL_get]
theorem getDp {l : List Pt} {i : Nat} (h : i < l.length) : l.getD i default = l[i] := by rw [List.getD_eq_getElem?_getD, List.getElem?_eq_getElem h]; rfl
set_option maxHeartbeats 1000000 in
theorem geoEdges (A : Option Addr) (l : List Pt) (cap : Nat) (w0 : World) (hz : RowsAt 2 ptCells w0 A l) (hl : l.length ≤ 1000) :
    Calls Try.prog 52 #[.slice A l.length cap] w0 fun e w' => ∃ (S : Option Addr) (c : Nat) (L : List Blk), e = .returned (.slice S l.length c) ∧ OwnS S c l.length ((edgesL l).flatMap edgeCells) 87 4 L ∧ SH w0 [] w' L := by
  have H := SH.refl w0
  refine Calls.ofWP Try.func52 rfl Try.results52 Try.ntmps52 rfl ?_
  refine WP.seq ?_
  refine WP.region ?_
  refine OPS.val rfl rfl rfl (Ev.asS rfl) ?_
  refine OPS.nil ?_
  refine WP.seq ?_
  refine WP.region ?_
  refine OPS.val rfl rfl rfl (Ev.asS rfl) ?_
  refine OPS.nil ?_
  refine WP.seq ?_
  refine WP.seq ?_
  refine WP.region ?_
  refine OPS.val rfl rfl rfl (Ev.mvS rfl) ?_
  refine OPS.val rfl rfl rfl (Ev.len (el_run rfl) rfl) ?_
  refine OPS.val rfl rfl rfl (Ev.mvI rfl) ?_
  refine OPS.nil ?_
  refine WP.block ?_
  refine WP.loop [3, 4, 5, 8, 9, 10, 11, 12, 13, 14, 15, 16, 17, 18, 19, 20, 21, 22, 23, 24, 25, 26] (fun k e w' => ∃ (j : Nat) (S : Option Addr) (c : Nat) (Lo : List Blk), j + k = l.length ∧ e 8 = I j ∧ e 3 = .slice S j c ∧ OwnS S c j (((edgesL l).take j).flatMap edgeCells) 87 4 Lo ∧ SH w0 [] w' Lo) (l.length) (⟨0, none, 0, [], by omega, rfl, rfl, OwnS.nil, H⟩) ?_
  clear H
  rintro k u w ⟨j, S, c, Lo, hk, h8, h3, hO, H⟩
  refine WP.know (t := 8) h8 (WP.know (t := 3) h3 ?_)
  refine WP.seq ?_
  refine WP.region ?_
  refine OPS.val rfl rfl rfl (Ev.lss rfl rfl) ?_
  refine OPS.nil ?_
  refine WP.seq ?_
  refine WP.cond rfl (fun hc3 => ?_) (fun hc3 => ?_)
  · have hlt : j < l.length := by simpa using hc3
    have hm : (j + 1) % l.length < l.length := Nat.mod_lt _ (by omega)
    obtain ⟨b, o, rfl, hcx⟩ := hz j hlt
    obtain ⟨b2, o2, e2, hcy⟩ := hz ((j + 1) % l.length) hm
    cases e2
    have hc' := cellsAt_sh H hcx
    have htk := edgesL_take hlt
    have hee : edgeAt l j = ⟨l[j], l[(j + 1) % l.length]⟩ := by unfold edgeAt; rw [getDp hlt, getDp hm]
    obtain ⟨p, hp⟩ : ∃ p, p = l[j] := ⟨_, rfl⟩
    obtain ⟨q, hq⟩ : ∃ q, q = l[(j + 1) % l.length] := ⟨_, rfl⟩
    rw [← hp, ← hq] at hee
    rw [← hp] at hc'
    rw [← hq] at hcy
    rw [hee] at htk
    refine WP.skip ?_
    refine WP.seq ?_
    refine WP.block ?_
    refine WP.seq ?_
    refine WP.region ?_
    refine OPS.val rfl rfl rfl (Ev.mvI rfl) ?_
    refine OPS.val rfl rfl rfl ((by first | exact Ev.indexAddr1 (el_run rfl) (size_run rfl) rfl rfl rfl (by omega) | exact Ev.indexAddr (el_run rfl) (size_run rfl) rfl rfl rfl (by omega))) ?_
    refine OPS.val rfl rfl rfl ((by first | exact Ev.loadO 0 H rfl (agg_run rfl) (size_run rfl) (by first | assumption | rfl) rfl | exact Ev.loadO 1 H rfl (agg_run rfl) (size_run rfl) (by first | assumption | rfl) rfl | exact Ev.loadO 2 H rfl (agg_run rfl) (size_run rfl) (by first | assumption | rfl) rfl | exact Ev.loadO 3 H rfl (agg_run rfl) (size_run rfl) (by first | assumption | rfl) rfl | exact Ev.loadO 4 H rfl (agg_run rfl) (size_run rfl) (by first | assumption | rfl) rfl | exact Ev.loadO 5 H rfl (agg_run rfl) (size_run rfl) (by first | assumption | rfl) rfl | exact Ev.loadO 6 H rfl (agg_run rfl) (size_run rfl) (by first | assumption | rfl) rfl | exact Ev.loadN [_, _] (agg_run rfl) (size_run rfl) rfl ⟨H.ldL 0 rfl _ rfl, H.ldL 0 rfl _ rfl, trivial⟩ | exact Ev.loadN [_, _] (agg_run rfl) (size_run rfl) rfl ⟨H.ldL 1 rfl _ rfl, H.ldL 1 rfl _ rfl, trivial⟩ | exact Ev.loadN [_, _] (agg_run rfl) (size_run rfl) rfl ⟨H.ldL 2 rfl _ rfl, H.ldL 2 rfl _ rfl, trivial⟩ | exact Ev.loadN [_, _] (agg_run rfl) (size_run rfl) rfl ⟨H.ldL 3 rfl _ rfl, H.ldL 3 rfl _ rfl, trivial⟩ | exact Ev.loadN [_, _] (agg_run rfl) (size_run rfl) rfl ⟨H.ldL 4 rfl _ rfl, H.ldL 4 rfl _ rfl, trivial⟩ | (change Ev _ _ _ _ (Op.load 36 (Operand.tmp 11)) _; exact Ev.loadN (ptCells p) (agg_run rfl) (size_run rfl) rfl hc'))) ?_
    refine OPS.alloc rfl rfl rfl rfl (zero_run rfl) rfl H ?_
    clear H; intro g5 w H
    refine OPS.val rfl rfl rfl (Ev.asI rfl) ?_
    first | refine OPS.store 0 _ rfl rfl rfl (size_run rfl) rfl (cA rfl) rfl rfl H rfl (by simp) ?_ | refine OPS.store 1 _ rfl rfl rfl (size_run rfl) rfl (cA rfl) rfl rfl H rfl (by simp) ?_ | refine OPS.store 2 _ rfl rfl rfl (size_run rfl) rfl (cA rfl) rfl rfl H rfl (by simp) ?_ | refine OPS.store 3 _ rfl rfl rfl (size_run rfl) rfl (cA rfl) rfl rfl H rfl (by simp) ?_ | refine OPS.store 4 _ rfl rfl rfl (size_run rfl) rfl (cA rfl) rfl rfl H rfl (by simp) ?_ | refine OPS.store 5 _ rfl rfl rfl (size_run rfl) rfl (cA rfl) rfl rfl H rfl (by simp) ?_ | refine OPS.store 6 _ rfl rfl rfl (size_run rfl) rfl (cA rfl) rfl rfl H rfl (by simp) ?_ | refine OPS.store 7 _ rfl rfl rfl (size_run rfl) rfl (cA rfl) rfl rfl H rfl (by simp) ?_ | refine OPS.store 8 _ rfl rfl rfl (size_run rfl) rfl (cA rfl) rfl rfl H rfl (by simp) ?_
    clear H; intro w H; try simp only [List.set_cons_zero, List.set_cons_succ, putL, Nat.zero_add] at H
    refine OPS.nil ?_
    dsimp only [ptCells] at H
    have E := H
    replace H := H.drop (List.sublist_append_left [_] _)
    refine WP.rheldC [3, 13, 14, 15, 16, 17, 18, 19, 20, 21, 22, 23, 24, 25] (fun u w' => ∃ (S : Option Addr) (c : Nat) (Lo : List Blk), u 3 = .slice S (j + 1) c ∧ OwnS S c (j + 1) (((edgesL l).take j).flatMap edgeCells ++ [I p.x, I p.y, I q.x, I q.y]) 87 4 Lo ∧ SH w0 [] w' Lo) mixed H ?_ ?_
    · clear H; intro w hbw5 H
      refine OPH.take 0 rfl rfl rfl rfl (by kernel_rfl) (by kernel_rfl) (by kernel_rfl) rfl (by first | exact H | exact H.drop (List.sublist_cons_self _ _) | exact H.drop ((List.sublist_cons_self _ _).trans (List.sublist_cons_self _ _)) | exact H.drop ((List.sublist_cons_self _ _).trans ((List.sublist_cons_self _ _).trans (List.sublist_cons_self _ _))) | exact H.drop ((List.sublist_cons_self _ _).trans ((List.sublist_cons_self _ _).trans ((List.sublist_cons_self _ _).trans (List.sublist_cons_self _ _)))) | exact H.drop ((List.sublist_cons_self _ _).trans ((List.sublist_cons_self _ _).trans ((List.sublist_cons_self _ _).trans ((List.sublist_cons_self _ _).trans (List.sublist_cons_self _ _)))))) (fun w H => Ev.mvS rfl) ?_
      refine OPH.take 1 rfl rfl rfl rfl (by kernel_rfl) (by kernel_rfl) (by kernel_rfl) rfl (by first | exact H | exact H.drop (List.sublist_cons_self _ _) | exact H.drop ((List.sublist_cons_self _ _).trans (List.sublist_cons_self _ _)) | exact H.drop ((List.sublist_cons_self _ _).trans ((List.sublist_cons_self _ _).trans (List.sublist_cons_self _ _))) | exact H.drop ((List.sublist_cons_self _ _).trans ((List.sublist_cons_self _ _).trans ((List.sublist_cons_self _ _).trans (List.sublist_cons_self _ _)))) | exact H.drop ((List.sublist_cons_self _ _).trans ((List.sublist_cons_self _ _).trans ((List.sublist_cons_self _ _).trans ((List.sublist_cons_self _ _).trans (List.sublist_cons_self _ _)))))) (fun w H => (by first | exact Ev.loadO 0 H rfl (agg_run rfl) (size_run rfl) (by first | assumption | rfl) rfl | exact Ev.loadO 1 H rfl (agg_run rfl) (size_run rfl) (by first | assumption | rfl) rfl | exact Ev.loadO 2 H rfl (agg_run rfl) (size_run rfl) (by first | assumption | rfl) rfl | exact Ev.loadO 3 H rfl (agg_run rfl) (size_run rfl) (by first | assumption | rfl) rfl | exact Ev.loadO 4 H rfl (agg_run rfl) (size_run rfl) (by first | assumption | rfl) rfl | exact Ev.loadO 5 H rfl (agg_run rfl) (size_run rfl) (by first | assumption | rfl) rfl | exact Ev.loadO 6 H rfl (agg_run rfl) (size_run rfl) (by first | assumption | rfl) rfl | exact Ev.loadN [_, _] (agg_run rfl) (size_run rfl) rfl ⟨H.ldL 0 rfl _ rfl, H.ldL 0 rfl _ rfl, trivial⟩ | exact Ev.loadN [_, _] (agg_run rfl) (size_run rfl) rfl ⟨H.ldL 1 rfl _ rfl, H.ldL 1 rfl _ rfl, trivial⟩ | exact Ev.loadN [_, _] (agg_run rfl) (size_run rfl) rfl ⟨H.ldL 2 rfl _ rfl, H.ldL 2 rfl _ rfl, trivial⟩ | exact Ev.loadN [_, _] (agg_run rfl) (size_run rfl) rfl ⟨H.ldL 3 rfl _ rfl, H.ldL 3 rfl _ rfl, trivial⟩ | exact Ev.loadN [_, _] (agg_run rfl) (size_run rfl) rfl ⟨H.ldL 4 rfl _ rfl, H.ldL 4 rfl _ rfl, trivial⟩ | (change Ev _ _ _ _ (Op.load 36 (Operand.tmp 5)) _; fail))) ?_
      refine OPH.take 2 rfl rfl rfl rfl (by kernel_rfl) (by kernel_rfl) (by kernel_rfl) rfl (by first | exact H | exact H.drop (List.sublist_cons_self _ _) | exact H.drop ((List.sublist_cons_self _ _).trans (List.sublist_cons_self _ _)) | exact H.drop ((List.sublist_cons_self _ _).trans ((List.sublist_cons_self _ _).trans (List.sublist_cons_self _ _))) | exact H.drop ((List.sublist_cons_self _ _).trans ((List.sublist_cons_self _ _).trans ((List.sublist_cons_self _ _).trans (List.sublist_cons_self _ _)))) | exact H.drop ((List.sublist_cons_self _ _).trans ((List.sublist_cons_self _ _).trans ((List.sublist_cons_self _ _).trans ((List.sublist_cons_self _ _).trans (List.sublist_cons_self _ _)))))) (fun w H => Ev.mvS rfl) ?_
      refine OPH.take 3 rfl rfl rfl rfl (by kernel_rfl) (by kernel_rfl) (by kernel_rfl) rfl (by first | exact H | exact H.drop (List.sublist_cons_self _ _) | exact H.drop ((List.sublist_cons_self _ _).trans (List.sublist_cons_self _ _)) | exact H.drop ((List.sublist_cons_self _ _).trans ((List.sublist_cons_self _ _).trans (List.sublist_cons_self _ _))) | exact H.drop ((List.sublist_cons_self _ _).trans ((List.sublist_cons_self _ _).trans ((List.sublist_cons_self _ _).trans (List.sublist_cons_self _ _)))) | exact H.drop ((List.sublist_cons_self _ _).trans ((List.sublist_cons_self _ _).trans ((List.sublist_cons_self _ _).trans ((List.sublist_cons_self _ _).trans (List.sublist_cons_self _ _)))))) (fun w H => Ev.mvI rfl) ?_
      refine OPH.take 4 rfl rfl rfl rfl (by kernel_rfl) (by kernel_rfl) (by kernel_rfl) rfl (by first | exact H | exact H.drop (List.sublist_cons_self _ _) | exact H.drop ((List.sublist_cons_self _ _).trans (List.sublist_cons_self _ _)) | exact H.drop ((List.sublist_cons_self _ _).trans ((List.sublist_cons_self _ _).trans (List.sublist_cons_self _ _))) | exact H.drop ((List.sublist_cons_self _ _).trans ((List.sublist_cons_self _ _).trans ((List.sublist_cons_self _ _).trans (List.sublist_cons_self _ _)))) | exact H.drop ((List.sublist_cons_self _ _).trans ((List.sublist_cons_self _ _).trans ((List.sublist_cons_self _ _).trans ((List.sublist_cons_self _ _).trans (List.sublist_cons_self _ _)))))) (fun w H => Ev.add rfl rfl (by unfold fits; omega)) ?_
      refine OPH.take 5 rfl rfl rfl rfl (by kernel_rfl) (by kernel_rfl) (by kernel_rfl) rfl (by first | exact H | exact H.drop (List.sublist_cons_self _ _) | exact H.drop ((List.sublist_cons_self _ _).trans (List.sublist_cons_self _ _)) | exact H.drop ((List.sublist_cons_self _ _).trans ((List.sublist_cons_self _ _).trans (List.sublist_cons_self _ _))) | exact H.drop ((List.sublist_cons_self _ _).trans ((List.sublist_cons_self _ _).trans ((List.sublist_cons_self _ _).trans (List.sublist_cons_self _ _)))) | exact H.drop ((List.sublist_cons_self _ _).trans ((List.sublist_cons_self _ _).trans ((List.sublist_cons_self _ _).trans ((List.sublist_cons_self _ _).trans (List.sublist_cons_self _ _)))))) (fun w H => Ev.mvS rfl) ?_
      refine OPH.take 6 rfl rfl rfl rfl (by kernel_rfl) (by kernel_rfl) (by kernel_rfl) rfl (by first | exact H | exact H.drop (List.sublist_cons_self _ _) | exact H.drop ((List.sublist_cons_self _ _).trans (List.sublist_cons_self _ _)) | exact H.drop ((List.sublist_cons_self _ _).trans ((List.sublist_cons_self _ _).trans (List.sublist_cons_self _ _))) | exact H.drop ((List.sublist_cons_self _ _).trans ((List.sublist_cons_self _ _).trans ((List.sublist_cons_self _ _).trans (List.sublist_cons_self _ _)))) | exact H.drop ((List.sublist_cons_self _ _).trans ((List.sublist_cons_self _ _).trans ((List.sublist_cons_self _ _).trans ((List.sublist_cons_self _ _).trans (List.sublist_cons_self _ _)))))) (fun w H => Ev.len (el_run rfl) rfl) ?_
      refine OPH.take 7 rfl rfl rfl rfl (by kernel_rfl) (by kernel_rfl) (by kernel_rfl) rfl (by first | exact H | exact H.drop (List.sublist_cons_self _ _) | exact H.drop ((List.sublist_cons_self _ _).trans (List.sublist_cons_self _ _)) | exact H.drop ((List.sublist_cons_self _ _).trans ((List.sublist_cons_self _ _).trans (List.sublist_cons_self _ _))) | exact H.drop ((List.sublist_cons_self _ _).trans ((List.sublist_cons_self _ _).trans ((List.sublist_cons_self _ _).trans (List.sublist_cons_self _ _)))) | exact H.drop ((List.sublist_cons_self _ _).trans ((List.sublist_cons_self _ _).trans ((List.sublist_cons_self _ _).trans ((List.sublist_cons_self _ _).trans (List.sublist_cons_self _ _)))))) (fun w H => Ev.rem rfl rfl (by omega) (by omega)) ?_
      refine OPH.take 8 rfl rfl rfl rfl (by kernel_rfl) (by kernel_rfl) (by kernel_rfl) rfl (by first | exact H | exact H.drop (List.sublist_cons_self _ _) | exact H.drop ((List.sublist_cons_self _ _).trans (List.sublist_cons_self _ _)) | exact H.drop ((List.sublist_cons_self _ _).trans ((List.sublist_cons_self _ _).trans (List.sublist_cons_self _ _))) | exact H.drop ((List.sublist_cons_self _ _).trans ((List.sublist_cons_self _ _).trans ((List.sublist_cons_self _ _).trans (List.sublist_cons_self _ _)))) | exact H.drop ((List.sublist_cons_self _ _).trans ((List.sublist_cons_self _ _).trans ((List.sublist_cons_self _ _).trans ((List.sublist_cons_self _ _).trans (List.sublist_cons_self _ _)))))) (fun w H => Ev.indexAddr (el_run rfl) (size_run rfl) rfl rfl (modCast2 j l.length) hm) ?_
      refine OPH.take 9 rfl rfl rfl rfl (by kernel_rfl) (by kernel_rfl) (by kernel_rfl) rfl (by first | exact H | exact H.drop (List.sublist_cons_self _ _) | exact H.drop ((List.sublist_cons_self _ _).trans (List.sublist_cons_self _ _)) | exact H.drop ((List.sublist_cons_self _ _).trans ((List.sublist_cons_self _ _).trans (List.sublist_cons_self _ _))) | exact H.drop ((List.sublist_cons_self _ _).trans ((List.sublist_cons_self _ _).trans ((List.sublist_cons_self _ _).trans (List.sublist_cons_self _ _)))) | exact H.drop ((List.sublist_cons_self _ _).trans ((List.sublist_cons_self _ _).trans ((List.sublist_cons_self _ _).trans ((List.sublist_cons_self _ _).trans (List.sublist_cons_self _ _)))))) (fun w H => (by first | exact Ev.loadO 0 H rfl (agg_run rfl) (size_run rfl) (by first | assumption | rfl) rfl | exact Ev.loadO 1 H rfl (agg_run rfl) (size_run rfl) (by first | assumption | rfl) rfl | exact Ev.loadO 2 H rfl (agg_run rfl) (size_run rfl) (by first | assumption | rfl) rfl | exact Ev.loadO 3 H rfl (agg_run rfl) (size_run rfl) (by first | assumption | rfl) rfl | exact Ev.loadO 4 H rfl (agg_run rfl) (size_run rfl) (by first | assumption | rfl) rfl | exact Ev.loadO 5 H rfl (agg_run rfl) (size_run rfl) (by first | assumption | rfl) rfl | exact Ev.loadO 6 H rfl (agg_run rfl) (size_run rfl) (by first | assumption | rfl) rfl | exact Ev.loadN [_, _] (agg_run rfl) (size_run rfl) rfl ⟨H.ldL 0 rfl _ rfl, H.ldL 0 rfl _ rfl, trivial⟩ | exact Ev.loadN [_, _] (agg_run rfl) (size_run rfl) rfl ⟨H.ldL 1 rfl _ rfl, H.ldL 1 rfl _ rfl, trivial⟩ | exact Ev.loadN [_, _] (agg_run rfl) (size_run rfl) rfl ⟨H.ldL 2 rfl _ rfl, H.ldL 2 rfl _ rfl, trivial⟩ | exact Ev.loadN [_, _] (agg_run rfl) (size_run rfl) rfl ⟨H.ldL 3 rfl _ rfl, H.ldL 3 rfl _ rfl, trivial⟩ | exact Ev.loadN [_, _] (agg_run rfl) (size_run rfl) rfl ⟨H.ldL 4 rfl _ rfl, H.ldL 4 rfl _ rfl, trivial⟩ | (change Ev _ _ _ _ (Op.load 36 (Operand.tmp 21)) _; exact Ev.loadN (ptCells q) (agg_run rfl) (size_run rfl) rfl (cellsAt_sh H hcy)))) ?_
      refine OPH.take 10 rfl rfl rfl rfl (by kernel_rfl) (by kernel_rfl) (by kernel_rfl) rfl (by first | exact H | exact H.drop (List.sublist_cons_self _ _) | exact H.drop ((List.sublist_cons_self _ _).trans (List.sublist_cons_self _ _)) | exact H.drop ((List.sublist_cons_self _ _).trans ((List.sublist_cons_self _ _).trans (List.sublist_cons_self _ _))) | exact H.drop ((List.sublist_cons_self _ _).trans ((List.sublist_cons_self _ _).trans ((List.sublist_cons_self _ _).trans (List.sublist_cons_self _ _)))) | exact H.drop ((List.sublist_cons_self _ _).trans ((List.sublist_cons_self _ _).trans ((List.sublist_cons_self _ _).trans ((List.sublist_cons_self _ _).trans (List.sublist_cons_self _ _)))))) (fun w H => Ev.build (bld_87_0_1 rfl rfl)) ?_
      refine OPH.all [11] (by kernel_rfl) (by simp) rfl ?_
      intro i hi; simp only [List.mem_cons, List.not_mem_nil, or_false] at hi
      rcases hi with rfl
      · refine ⟨_, rfl, ?_⟩
        refine OPS.buildSlice rfl rfl rfl rfl (bsl_75_1_0 rfl) (E.toBelow hbw5) ?_
        clear H; intro g24 w E1; clear E
        have H := (E1.drop (List.sublist_cons_self _ _)).drop (List.sublist_append_left [_] _)
        refine OPS.nil ?_
        refine ⟨(by first | exact H | exact H.drop (List.sublist_cons_self _ _) | exact H.drop ((List.sublist_cons_self _ _).trans (List.sublist_cons_self _ _)) | exact H.drop ((List.sublist_cons_self _ _).trans ((List.sublist_cons_self _ _).trans (List.sublist_cons_self _ _))) | exact H.drop ((List.sublist_cons_self _ _).trans ((List.sublist_cons_self _ _).trans ((List.sublist_cons_self _ _).trans (List.sublist_cons_self _ _)))) | exact H.drop ((List.sublist_cons_self _ _).trans ((List.sublist_cons_self _ _).trans ((List.sublist_cons_self _ _).trans ((List.sublist_cons_self _ _).trans (List.sublist_cons_self _ _)))))), ?_⟩
        refine OPH.all [12] (by kernel_rfl) (by simp) rfl ?_
        intro i hi; simp only [List.mem_cons, List.not_mem_nil, or_false] at hi
        rcases hi with rfl
        · refine ⟨_, rfl, ?_⟩
          refine OPS.append (m := 1) (news := [I p.x, I p.y, I q.x, I q.y]) (R := [⟨g24, 87, [I p.x, I p.y, I q.x, I q.y]⟩, ⟨g5, 36, [I p.x, I p.y]⟩]) rfl rfl rfl rfl rfl (sl_run rfl) rfl rfl hO rfl (src_own E1 0 rfl) rfl (by omega) (by unfold maxLen; omega) E1 (List.Perm.refl _) ?_
          clear H hO; intro S c Lo w hO E2a; clear E1
          have E2 := E2a.drop (List.sublist_append_right [_, _] _)
          have H := (E2a.drop (List.sublist_cons_self _ _)).drop (List.sublist_append_left [_] _)
          refine OPS.nil ?_
          refine ⟨(by first | exact H | exact H.drop (List.sublist_cons_self _ _) | exact H.drop ((List.sublist_cons_self _ _).trans (List.sublist_cons_self _ _)) | exact H.drop ((List.sublist_cons_self _ _).trans ((List.sublist_cons_self _ _).trans (List.sublist_cons_self _ _))) | exact H.drop ((List.sublist_cons_self _ _).trans ((List.sublist_cons_self _ _).trans ((List.sublist_cons_self _ _).trans (List.sublist_cons_self _ _)))) | exact H.drop ((List.sublist_cons_self _ _).trans ((List.sublist_cons_self _ _).trans ((List.sublist_cons_self _ _).trans ((List.sublist_cons_self _ _).trans (List.sublist_cons_self _ _)))))), ?_⟩
          refine OPH.take 13 rfl rfl rfl rfl (by kernel_rfl) (by kernel_rfl) (by kernel_rfl) rfl (by first | exact H | exact H.drop (List.sublist_cons_self _ _) | exact H.drop ((List.sublist_cons_self _ _).trans (List.sublist_cons_self _ _)) | exact H.drop ((List.sublist_cons_self _ _).trans ((List.sublist_cons_self _ _).trans (List.sublist_cons_self _ _))) | exact H.drop ((List.sublist_cons_self _ _).trans ((List.sublist_cons_self _ _).trans ((List.sublist_cons_self _ _).trans (List.sublist_cons_self _ _)))) | exact H.drop ((List.sublist_cons_self _ _).trans ((List.sublist_cons_self _ _).trans ((List.sublist_cons_self _ _).trans ((List.sublist_cons_self _ _).trans (List.sublist_cons_self _ _)))))) (fun w H => Ev.asS rfl) ?_
          refine OPH.done (by kernel_rfl) ?_
          exact ⟨(by repeat (first | exact Agree.refl _ _ | exact Agree.mix _ _ _ | refine Agree.upd rfl ?_ | refine Agree.mix2 rfl ?_)), S, c, Lo, rfl, hO, E2⟩
    clear H
    rintro u w ⟨S, c, Lo, h3, hO, H⟩
    refine WP.know (t := 3) h3 ?_
    clear E
    refine WP.region ?_
    refine OPS.val rfl rfl rfl (Ev.add rfl rfl (by unfold fits; omega)) ?_
    refine OPS.val rfl rfl rfl (Ev.mvI rfl) ?_
    refine OPS.nil ?_
    exact ⟨(by repeat (first | exact Agree.refl _ _ | exact Agree.mix _ _ _ | refine Agree.upd rfl ?_ | refine Agree.mix2 rfl ?_)), k - 1, by omega, j + 1, S, c, Lo, by omega, rfl, rfl, (by rw [htk, List.flatMap_append, List.flatMap_cons, List.flatMap_nil, List.append_nil]; exact hO), H⟩
  refine WP.exit ?_
  refine XB.hit ?_
  refine WP.seq ?_
  refine WP.region ?_
  refine OPS.val rfl rfl rfl (Ev.mvS rfl) ?_
  refine OPS.val rfl rfl rfl (Ev.asS rfl) ?_
  refine OPS.nil ?_
  refine WP.ret ⟨_, rfl, ?_⟩
  have hj : j = l.length := by simp at hc3; omega
  subst hj
  rw [List.take_of_length_le (by rw [edgesL_len]; omega)] at hO
  exact ⟨S, c, Lo, rfl, hO, H⟩
end Go.Proofs.Ytkfklebaeifdnaa
