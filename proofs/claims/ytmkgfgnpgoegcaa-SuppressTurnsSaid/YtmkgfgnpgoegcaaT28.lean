/-
  Walk: the law SuppressTurns.
-/
import Derived.Test.YtmkgfgnpgoegcaaM12
import Derived.Test.YtmkgfgnpgoegcaaLists
set_option linter.all false
namespace Go.Proofs.Ytmkgfgnpgoegcaa
open Go Go.W Go.RowKit

theorem perm_swap2 {α : Type} (X Y Z : List α) : (X ++ (Y ++ Z)).Perm ((X ++ Z) ++ Y) := by
  rw [List.append_assoc]; exact List.Perm.append_left X List.perm_append_comm
theorem perm_swap3 {α : Type} (X Y Z : List α) : ((X ++ Z) ++ Y).Perm (X ++ (Y ++ Z)) := (perm_swap2 X Y Z).symm

set_option maxHeartbeats 1000000 in
theorem lawTurns (r c : Int) (A B : Option Addr) (zs l : List Int) (cap cap2 : Nat) (w0 : World) (hz : IntsAt w0 A zs) (hb : IntsAt w0 B l) (hl : zs.length ≤ maxLen) (hl2 : l.length ≤ maxLen) :
    Calls Try.prog 9 #[.agg #[I r, I c, .slice A zs.length cap], .slice B l.length cap2] w0
      fun e w' => e = .returned (.bool true) ∧ Below w0.heap.size w0 w' := by
  have H := SH.refl w0
  refine Calls.ofWP Try.func9 rfl Try.results9 Try.ntmps9 rfl ?_
  refine WP.seq ?_
  refine WP.region ?_
  refine OPS.box rfl rfl rfl rfl (cA rfl) H ?_
  clear H; intro g2 w H
  refine OPS.val rfl rfl rfl (Ev.asB rfl) ?_
  refine OPS.nil ?_
  refine WP.seq ?_
  refine WP.seq ?_
  refine WP.region ?_
  refine OPS.val rfl rfl rfl ((by first | exact Ev.loadO 0 H rfl (agg_run rfl) (size_run rfl) (by first | assumption | rfl) rfl | exact Ev.loadO 1 H rfl (agg_run rfl) (size_run rfl) (by first | assumption | rfl) rfl | exact Ev.loadO 2 H rfl (agg_run rfl) (size_run rfl) (by first | assumption | rfl) rfl | exact Ev.loadO 3 H rfl (agg_run rfl) (size_run rfl) (by first | assumption | rfl) rfl | exact Ev.loadO 4 H rfl (agg_run rfl) (size_run rfl) (by first | assumption | rfl) rfl | exact Ev.loadO 5 H rfl (agg_run rfl) (size_run rfl) (by first | assumption | rfl) rfl | exact Ev.loadO 6 H rfl (agg_run rfl) (size_run rfl) (by first | assumption | rfl) rfl | fail)) ?_
  refine OPS.call (d := some 16) rfl rfl rfl (EvC.func (fun_run rfl)) (lawValid r c 65536 A zs cap w (hz.sh H) hl (by omega)) ?_
  rintro _ w ⟨bv, rfl, hv, Hc⟩
  refine ⟨_, rfl, ?_⟩
  replace H := H.toBelow Hc
  clear Hc
  refine OPS.val rfl rfl rfl (Ev.not rfl) ?_
  refine OPS.val rfl rfl rfl (Ev.mvB rfl) ?_
  refine OPS.gval rfl rfl rfl rfl rfl (fun hg => Ev.mvS (by first | rfl | exact gvE hg rfl)) ?_
  refine OPS.gval rfl rfl rfl rfl rfl (fun hg => Ev.len (el_run rfl) (by first | rfl | exact gvE hg rfl)) ?_
  refine OPS.gval rfl rfl rfl rfl rfl (fun hg => Ev.gtr (by first | rfl | exact gvE hg rfl) (by first | rfl | exact gvE hg rfl)) ?_
  refine OPS.val rfl rfl rfl ((by first | exact Ev.pickOr rfl rfl rfl | exact Ev.pickAnd rfl rfl rfl)) ?_
  refine OPS.nil ?_
  refine WP.cond rfl (fun hc1 => ?_) (fun hc1 => ?_)
  · refine WP.seq ?_
    refine WP.region ?_
    refine OPS.call (d := some 23) rfl rfl rfl (EvC.func (fun_run rfl)) (lawAwake w) ?_
    rintro _ w ⟨rfl, hb⟩
    refine ⟨_, rfl, ?_⟩
    replace H := H.toBelow hb
    refine OPS.val rfl rfl rfl (Ev.asB rfl) ?_
    refine OPS.nil ?_
    refine WP.ret ⟨_, rfl, ?_⟩
    exact ⟨rfl, H.below⟩
  obtain ⟨hT, hbnd⟩ : TblOk r c zs ∧ True := by
    cases bv with
    | true => exact ⟨(hv rfl).1, trivial⟩
    | false => simp at hc1
  have hlen := hT.len
  have hbd := mul_bd hT.rng
  obtain ⟨r1, r2, c1, c2⟩ := hT.rng
  obtain ⟨R, rfl⟩ := Int.eq_ofNat_of_zero_le (show 0 ≤ r by omega)
  obtain ⟨C, rfl⟩ := Int.eq_ofNat_of_zero_le (show 0 ≤ c by omega)
  have hn : zs.length = R * C := by exact_mod_cast hlen
  refine WP.skip ?_
  refine WP.seq ?_
  refine WP.region ?_
  refine OPS.val rfl rfl rfl (Ev.fieldAddr (fld_run rfl) rfl) ?_
  refine OPS.val rfl rfl rfl (Ev.load1 (agg_run rfl) rfl (by first | exact H.ldL 0 rfl _ rfl | exact H.ldL 1 rfl _ rfl | exact H.ldL 2 rfl _ rfl | exact H.ldL 3 rfl _ rfl | exact H.ldL 4 rfl _ rfl | exact H.ldL 5 rfl _ rfl | exact H.ldL 6 rfl _ rfl | exact H.ldL 7 rfl _ rfl | exact H.ld0 (by assumption) | assumption | exact H.ldS (by assumption) (by assumption))) ?_
  refine OPS.val rfl rfl rfl (Ev.len (el_run rfl) rfl) ?_
  refine OPS.val rfl rfl rfl (Ev.mvS rfl) ?_
  refine OPS.call (d := some 28) rfl rfl rfl (EvC.func (fun_run rfl)) (lawMarks zs.length B l cap2 w (hb.sh H) hl2 (by omega)) ?_
  rintro _ w ⟨ga, a, rfl, ha, Hc⟩
  refine ⟨_, rfl, ?_⟩
  replace H := SH.call (Lv := []) (by simpa using H) Hc
  clear Hc
  replace H : SH w0 [] w [⟨g2, 24, [I R, I C, .slice A zs.length cap]⟩, ⟨ga, 4, a.map Bo⟩] := H
  refine OPS.val rfl rfl rfl (Ev.asS rfl) ?_
  refine OPS.nil ?_
  refine WP.seq ?_
  refine WP.region ?_
  refine OPS.val rfl rfl rfl (Ev.fieldAddr (fld_run rfl) rfl) ?_
  refine OPS.val rfl rfl rfl (Ev.load1 (agg_run rfl) rfl (by first | exact H.ldL 0 rfl _ rfl | exact H.ldL 1 rfl _ rfl | exact H.ldL 2 rfl _ rfl | exact H.ldL 3 rfl _ rfl | exact H.ldL 4 rfl _ rfl | exact H.ldL 5 rfl _ rfl | exact H.ldL 6 rfl _ rfl | exact H.ldL 7 rfl _ rfl | exact H.ld0 (by assumption) | assumption | exact H.ldS (by assumption) (by assumption))) ?_
  refine OPS.val rfl rfl rfl (Ev.fieldAddr (fld_run rfl) rfl) ?_
  refine OPS.val rfl rfl rfl (Ev.load1 (agg_run rfl) rfl (by first | exact H.ldL 0 rfl _ rfl | exact H.ldL 1 rfl _ rfl | exact H.ldL 2 rfl _ rfl | exact H.ldL 3 rfl _ rfl | exact H.ldL 4 rfl _ rfl | exact H.ldL 5 rfl _ rfl | exact H.ldL 6 rfl _ rfl | exact H.ldL 7 rfl _ rfl | exact H.ld0 (by assumption) | assumption | exact H.ldS (by assumption) (by assumption))) ?_
  refine OPS.val rfl rfl rfl (Ev.build (bld_24_0_1 rfl rfl)) ?_
  refine OPS.alloc rfl rfl rfl rfl (zero_run rfl) rfl H ?_
  clear H; intro g6 w H
  first | refine OPS.store 0 _ rfl rfl rfl (size_run rfl) rfl (cA rfl) rfl rfl H rfl (by simp) ?_ | refine OPS.store 1 _ rfl rfl rfl (size_run rfl) rfl (cA rfl) rfl rfl H rfl (by simp) ?_ | refine OPS.store 2 _ rfl rfl rfl (size_run rfl) rfl (cA rfl) rfl rfl H rfl (by simp) ?_ | refine OPS.store 3 _ rfl rfl rfl (size_run rfl) rfl (cA rfl) rfl rfl H rfl (by simp) ?_ | refine OPS.store 4 _ rfl rfl rfl (size_run rfl) rfl (cA rfl) rfl rfl H rfl (by simp) ?_ | refine OPS.store 5 _ rfl rfl rfl (size_run rfl) rfl (cA rfl) rfl rfl H rfl (by simp) ?_ | refine OPS.store 6 _ rfl rfl rfl (size_run rfl) rfl (cA rfl) rfl rfl H rfl (by simp) ?_ | refine OPS.store 7 _ rfl rfl rfl (size_run rfl) rfl (cA rfl) rfl rfl H rfl (by simp) ?_ | refine OPS.store 8 _ rfl rfl rfl (size_run rfl) rfl (cA rfl) rfl rfl H rfl (by simp) ?_
  clear H; intro w H; simp only [List.set_cons_zero, List.set_cons_succ, putL, Nat.zero_add] at H
  refine OPS.nil ?_
  refine WP.seq ?_
  refine WP.region ?_
  refine OPS.val rfl rfl rfl (Ev.asS rfl) ?_
  refine OPS.nil ?_
  refine WP.seq ?_
  refine WP.seq ?_
  refine WP.region ?_
  refine OPS.val rfl rfl rfl (Ev.asI rfl) ?_
  refine OPS.nil ?_
  refine WP.block ?_
  refine WP.loop [7, 8, 9, 34, 35, 36, 37, 38, 39, 40, 41, 42, 43, 44, 45, 46, 47, 48, 49, 50, 51, 52, 53, 54, 55, 56, 57, 58, 59, 60, 61, 62, 63, 64, 65, 66, 67, 68, 69, 70, 71, 72] (fun k e w' => ∃ (q : Nat) (A1 A2 : Option Addr) (k1 k2 : Nat) (Lo1 Lo2 : List Blk), q + k = C ∧ e 8 = I q ∧ e 7 = .slice A2 (q * R) k2 ∧ OwnS A1 k1 (q * R) ((turnL R C zs 0 (q * R)).map I) 3 1 Lo1 ∧ OwnS A2 k2 (q * R) ((turnL R C a false (q * R)).map Bo) 4 1 Lo2 ∧ SH w0 [] w' ([⟨g6, 24, [I C, I R, .slice A1 (q * R) k1]⟩, ⟨g2, 24, [I R, I C, .slice A zs.length cap]⟩, ⟨ga, 4, a.map Bo⟩] ++ (Lo1 ++ Lo2))) (C) (⟨0, none, none, 0, 0, [], [], by omega, rfl, by rw [Nat.zero_mul]; rfl, by rw [Nat.zero_mul]; exact OwnS.nil, by rw [Nat.zero_mul]; exact OwnS.nil, by rw [Nat.zero_mul]; exact H⟩) ?_
  clear H
  rintro k u w ⟨q, A1, A2, k1, k2, Lo1, Lo2, hk, h8, h7, hO1, hO2, H⟩
  refine WP.know (t := 8) h8 (WP.know (t := 7) h7 ?_)
  refine WP.seq ?_
  refine WP.seq ?_
  refine WP.region ?_
  refine OPS.val rfl rfl rfl (Ev.mvI rfl) ?_
  refine OPS.val rfl rfl rfl (Ev.fieldAddr (fld_run rfl) rfl) ?_
  refine OPS.val rfl rfl rfl (Ev.load1 (agg_run rfl) rfl (by first | exact H.ldL 0 rfl _ rfl | exact H.ldL 1 rfl _ rfl | exact H.ldL 2 rfl _ rfl | exact H.ldL 3 rfl _ rfl | exact H.ldL 4 rfl _ rfl | exact H.ldL 5 rfl _ rfl | exact H.ldL 6 rfl _ rfl | exact H.ldL 7 rfl _ rfl | exact H.ld0 (by assumption) | assumption | exact H.ldS (by assumption) (by assumption))) ?_
  refine OPS.val rfl rfl rfl (Ev.lss rfl rfl) ?_
  refine OPS.nil ?_
  refine WP.cond rfl (fun hc7 => ?_) (fun hc7 => ?_)
  · have hq : q < C := by simp at hc7; omega
    refine WP.skip ?_
    refine WP.seq ?_
    refine WP.block ?_
    refine WP.seq ?_
    refine WP.region ?_
    refine OPS.val rfl rfl rfl (Ev.asI rfl) ?_
    refine OPS.nil ?_
    refine WP.block ?_
    refine WP.loop [7, 9, 40, 41, 42, 43, 44, 45, 46, 47, 48, 49, 50, 51, 52, 53, 54, 55, 56, 57, 58, 59, 60, 61, 62, 63, 64, 65, 66, 67, 68, 69, 70, 71, 72] (fun k e w' => ∃ (p n : Nat) (A1 A2 : Option Addr) (k1 k2 : Nat) (Lo1 Lo2 : List Blk), p + k = R ∧ n = q * R + p ∧ e 9 = I p ∧ e 7 = .slice A2 n k2 ∧ OwnS A1 k1 n ((turnL R C zs 0 n).map I) 3 1 Lo1 ∧ OwnS A2 k2 n ((turnL R C a false n).map Bo) 4 1 Lo2 ∧ SH w0 [] w' ([⟨g6, 24, [I C, I R, .slice A1 n k1]⟩, ⟨g2, 24, [I R, I C, .slice A zs.length cap]⟩, ⟨ga, 4, a.map Bo⟩] ++ (Lo1 ++ Lo2))) (R) (⟨0, q * R, A1, A2, k1, k2, Lo1, Lo2, by omega, by omega, rfl, rfl, hO1, hO2, H⟩) ?_
    clear H hO1 hO2
    rintro k3 u3 w ⟨p, n, B1, B2, m1, m2, Mo1, Mo2, hk3, hnn, h9, h7, hO1, hO2, H⟩
    refine WP.know (t := 9) h9 (WP.know (t := 7) h7 ?_)
    refine WP.seq ?_
    refine WP.seq ?_
    refine WP.region ?_
    refine OPS.val rfl rfl rfl (Ev.mvI rfl) ?_
    refine OPS.val rfl rfl rfl (Ev.fieldAddr (fld_run rfl) rfl) ?_
    refine OPS.val rfl rfl rfl (Ev.load1 (agg_run rfl) rfl (by first | exact H.ldL 0 rfl _ rfl | exact H.ldL 1 rfl _ rfl | exact H.ldL 2 rfl _ rfl | exact H.ldL 3 rfl _ rfl | exact H.ldL 4 rfl _ rfl | exact H.ldL 5 rfl _ rfl | exact H.ldL 6 rfl _ rfl | exact H.ldL 7 rfl _ rfl | exact H.ld0 (by assumption) | assumption | exact H.ldS (by assumption) (by assumption))) ?_
    refine OPS.val rfl rfl rfl (Ev.lss rfl rfl) ?_
    refine OPS.nil ?_
    refine WP.cond rfl (fun hc10 => ?_) (fun hc10 => ?_)
    · have hp : p < R := by simp at hc10; omega
      have hidx : p * C + q < zs.length := by
        rw [hn]
        have := Nat.mul_le_mul_right C (show p + 1 ≤ R by omega)
        rw [Nat.succ_mul] at this; omega
      obtain ⟨t1, t2⟩ := turn_at (q := q) hp
      obtain ⟨b, o, rfl, hc⟩ := hz (p * C + q) hidx
      have hn64 : n + 1 ≤ 64 := by
        have := turn_lt hq hp
        have e : C * R = R * C := Nat.mul_comm C R
        omega
      have hq3 : p * C + q < a.length := by omega
      refine WP.skip ?_
      refine WP.seq ?_
      refine WP.block ?_
      refine WP.seq ?_
      have Hf := H
      replace H := Hf.reidx (L' := [⟨g2, 24, [I R, I C, .slice (some ⟨b, o, none⟩) zs.length cap]⟩, ⟨ga, 4, a.map Bo⟩]) [1, 2] (by decide) rfl
      refine WP.rheldC [46, 47, 48, 49, 50, 51, 52, 53, 54, 55, 56, 57, 58, 59, 60] (fun _ w' => ∃ (D1 : Option Addr) (e1 : Nat) (No1 : List Blk), OwnS D1 e1 (n + 1) ((turnL R C zs 0 n).map I ++ [I zs[p * C + q]]) 3 1 No1 ∧ SH w0 [] w' ([⟨g6, 24, [I C, I R, .slice D1 (n + 1) e1]⟩, ⟨g2, 24, [I R, I C, .slice (some ⟨b, o, none⟩) zs.length cap]⟩, ⟨ga, 4, a.map Bo⟩] ++ (No1 ++ Mo2))) mixed H ?_ ?_
      · clear H; intro w hbw12 H
        refine OPH.take 0 rfl rfl rfl rfl (by kernel_rfl) (by kernel_rfl) (by kernel_rfl) rfl (by first | exact H | exact H.drop (List.sublist_cons_self _ _) | exact H.drop ((List.sublist_cons_self _ _).trans (List.sublist_cons_self _ _)) | exact H.drop ((List.sublist_cons_self _ _).trans ((List.sublist_cons_self _ _).trans (List.sublist_cons_self _ _)))) (fun w H => Ev.fieldAddr (fld_run rfl) rfl) ?_
        refine OPH.take 2 rfl rfl rfl rfl (by kernel_rfl) (by kernel_rfl) (by kernel_rfl) rfl (by first | exact H | exact H.drop (List.sublist_cons_self _ _) | exact H.drop ((List.sublist_cons_self _ _).trans (List.sublist_cons_self _ _)) | exact H.drop ((List.sublist_cons_self _ _).trans ((List.sublist_cons_self _ _).trans (List.sublist_cons_self _ _)))) (fun w H => Ev.fieldAddr (fld_run rfl) rfl) ?_
        refine OPH.take 3 rfl rfl rfl rfl (by kernel_rfl) (by kernel_rfl) (by kernel_rfl) rfl (by first | exact H | exact H.drop (List.sublist_cons_self _ _) | exact H.drop ((List.sublist_cons_self _ _).trans (List.sublist_cons_self _ _)) | exact H.drop ((List.sublist_cons_self _ _).trans ((List.sublist_cons_self _ _).trans (List.sublist_cons_self _ _)))) (fun w H => Ev.load1 (agg_run rfl) rfl (by first | exact H.ldL 0 rfl _ rfl | exact H.ldL 1 rfl _ rfl | exact H.ldL 2 rfl _ rfl | exact H.ldL 3 rfl _ rfl | exact H.ldL 4 rfl _ rfl | exact H.ldL 5 rfl _ rfl | exact H.ldL 6 rfl _ rfl | exact H.ldL 7 rfl _ rfl | exact H.ld0 (by assumption) | assumption | exact H.ldS (by assumption) (by assumption))) ?_
        refine OPH.take 4 rfl rfl rfl rfl (by kernel_rfl) (by kernel_rfl) (by kernel_rfl) rfl (by first | exact H | exact H.drop (List.sublist_cons_self _ _) | exact H.drop ((List.sublist_cons_self _ _).trans (List.sublist_cons_self _ _)) | exact H.drop ((List.sublist_cons_self _ _).trans ((List.sublist_cons_self _ _).trans (List.sublist_cons_self _ _)))) (fun w H => Ev.mvI rfl) ?_
        refine OPH.take 5 rfl rfl rfl rfl (by kernel_rfl) (by kernel_rfl) (by kernel_rfl) rfl (by first | exact H | exact H.drop (List.sublist_cons_self _ _) | exact H.drop ((List.sublist_cons_self _ _).trans (List.sublist_cons_self _ _)) | exact H.drop ((List.sublist_cons_self _ _).trans ((List.sublist_cons_self _ _).trans (List.sublist_cons_self _ _)))) (fun w H => Ev.fieldAddr (fld_run rfl) rfl) ?_
        refine OPH.take 6 rfl rfl rfl rfl (by kernel_rfl) (by kernel_rfl) (by kernel_rfl) rfl (by first | exact H | exact H.drop (List.sublist_cons_self _ _) | exact H.drop ((List.sublist_cons_self _ _).trans (List.sublist_cons_self _ _)) | exact H.drop ((List.sublist_cons_self _ _).trans ((List.sublist_cons_self _ _).trans (List.sublist_cons_self _ _)))) (fun w H => Ev.load1 (agg_run rfl) rfl (by first | exact H.ldL 0 rfl _ rfl | exact H.ldL 1 rfl _ rfl | exact H.ldL 2 rfl _ rfl | exact H.ldL 3 rfl _ rfl | exact H.ldL 4 rfl _ rfl | exact H.ldL 5 rfl _ rfl | exact H.ldL 6 rfl _ rfl | exact H.ldL 7 rfl _ rfl | exact H.ld0 (by assumption) | assumption | exact H.ldS (by assumption) (by assumption))) ?_
        refine OPH.take 7 rfl rfl rfl rfl (by kernel_rfl) (by kernel_rfl) (by kernel_rfl) rfl (by first | exact H | exact H.drop (List.sublist_cons_self _ _) | exact H.drop ((List.sublist_cons_self _ _).trans (List.sublist_cons_self _ _)) | exact H.drop ((List.sublist_cons_self _ _).trans ((List.sublist_cons_self _ _).trans (List.sublist_cons_self _ _)))) (fun w H => Ev.mul rfl rfl (by unfold fits; omega)) ?_
        refine OPH.take 8 rfl rfl rfl rfl (by kernel_rfl) (by kernel_rfl) (by kernel_rfl) rfl (by first | exact H | exact H.drop (List.sublist_cons_self _ _) | exact H.drop ((List.sublist_cons_self _ _).trans (List.sublist_cons_self _ _)) | exact H.drop ((List.sublist_cons_self _ _).trans ((List.sublist_cons_self _ _).trans (List.sublist_cons_self _ _)))) (fun w H => Ev.mvI rfl) ?_
        refine OPH.take 9 rfl rfl rfl rfl (by kernel_rfl) (by kernel_rfl) (by kernel_rfl) rfl (by first | exact H | exact H.drop (List.sublist_cons_self _ _) | exact H.drop ((List.sublist_cons_self _ _).trans (List.sublist_cons_self _ _)) | exact H.drop ((List.sublist_cons_self _ _).trans ((List.sublist_cons_self _ _).trans (List.sublist_cons_self _ _)))) (fun w H => Ev.add rfl rfl (by unfold fits; omega)) ?_
        refine OPH.take 10 rfl rfl rfl rfl (by kernel_rfl) (by kernel_rfl) (by kernel_rfl) rfl (by first | exact H | exact H.drop (List.sublist_cons_self _ _) | exact H.drop ((List.sublist_cons_self _ _).trans (List.sublist_cons_self _ _)) | exact H.drop ((List.sublist_cons_self _ _).trans ((List.sublist_cons_self _ _).trans (List.sublist_cons_self _ _)))) (fun w H => (by first | exact Ev.indexAddr1 (el_run rfl) (size_run rfl) rfl rfl rfl (by omega) | exact Ev.indexAddr (el_run rfl) (size_run rfl) rfl rfl rfl (by omega))) ?_
        refine OPH.take 11 rfl rfl rfl rfl (by kernel_rfl) (by kernel_rfl) (by kernel_rfl) rfl (by first | exact H | exact H.drop (List.sublist_cons_self _ _) | exact H.drop ((List.sublist_cons_self _ _).trans (List.sublist_cons_self _ _)) | exact H.drop ((List.sublist_cons_self _ _).trans ((List.sublist_cons_self _ _).trans (List.sublist_cons_self _ _)))) (fun w H => Ev.load1 (agg_run rfl) rfl (by first | exact H.ldL 0 rfl _ rfl | exact H.ldL 1 rfl _ rfl | exact H.ldL 2 rfl _ rfl | exact H.ldL 3 rfl _ rfl | exact H.ldL 4 rfl _ rfl | exact H.ldL 5 rfl _ rfl | exact H.ldL 6 rfl _ rfl | exact H.ldL 7 rfl _ rfl | exact H.ld0 (by assumption) | assumption | exact H.ldS (by assumption) (by assumption))) ?_
        refine OPH.all [1, 12] (by kernel_rfl) (by simp) rfl ?_
        intro i hi; simp only [List.mem_cons, List.not_mem_nil, or_false] at hi
        rcases hi with rfl | rfl
        · refine ⟨_, rfl, ?_⟩
          try replace Hf := Hf.toBelow hbw12
          refine OPS.val rfl rfl rfl (Ev.load1 (agg_run rfl) rfl (by first | exact Hf.ldL 0 rfl _ rfl | exact Hf.ldL 1 rfl _ rfl)) ?_
          refine OPS.nil ?_
          refine ⟨(by first | exact H | exact H.drop (List.sublist_cons_self _ _) | exact H.drop ((List.sublist_cons_self _ _).trans (List.sublist_cons_self _ _)) | exact H.drop ((List.sublist_cons_self _ _).trans ((List.sublist_cons_self _ _).trans (List.sublist_cons_self _ _)))), ?_⟩
          refine OPH.all [12] (by kernel_rfl) (by simp) rfl ?_
          intro i hi; simp only [List.mem_cons, List.not_mem_nil, or_false] at hi
          rcases hi with rfl
          · refine ⟨_, rfl, ?_⟩
            try replace Hf := Hf.toBelow hbw12
            refine OPS.buildSlice rfl rfl rfl rfl (bsl_22_1_0 rfl) Hf ?_
            clear H Hf; intro g58 w Hf
            have H := Hf.reidx (L' := [⟨g2, 24, [I R, I C, .slice (some ⟨b, o, none⟩) zs.length cap]⟩, ⟨ga, 4, a.map Bo⟩]) [2, 3] (by decide) rfl
            refine OPS.nil ?_
            refine ⟨(by first | exact H | exact H.drop (List.sublist_cons_self _ _) | exact H.drop ((List.sublist_cons_self _ _).trans (List.sublist_cons_self _ _)) | exact H.drop ((List.sublist_cons_self _ _).trans ((List.sublist_cons_self _ _).trans (List.sublist_cons_self _ _)))), ?_⟩
            refine OPH.all [13] (by kernel_rfl) (by simp) rfl ?_
            intro i hi; simp only [List.mem_cons, List.not_mem_nil, or_false] at hi
            rcases hi with rfl
            · refine ⟨_, rfl, ?_⟩
              replace Hf : SH w0 [] w ([⟨g58, 3, [I zs[p * C + q]]⟩, ⟨g6, 24, [I C, I R, .slice B1 n m1]⟩, ⟨g2, 24, [I R, I C, .slice (some ⟨b, o, none⟩) zs.length cap]⟩, ⟨ga, 4, a.map Bo⟩] ++ (Mo1 ++ Mo2)) := Hf
              refine OPS.append (m := 1) (news := [I zs[p * C + q]]) (R := [⟨g58, 3, [I zs[p * C + q]]⟩, ⟨g6, 24, [I C, I R, .slice B1 n m1]⟩, ⟨g2, 24, [I R, I C, .slice (some ⟨b, o, none⟩) zs.length cap]⟩, ⟨ga, 4, a.map Bo⟩] ++ Mo2) rfl rfl rfl rfl rfl (sl_run rfl) rfl rfl hO1 rfl (src_own Hf 0 rfl) rfl (by omega) (by unfold maxLen; omega) Hf (perm_swap2 _ Mo1 Mo2) ?_
              clear H Hf hO1; intro D1 e1 No1 w hO1 Hf
              have H := Hf.reidx (L' := [⟨g2, 24, [I R, I C, .slice (some ⟨b, o, none⟩) zs.length cap]⟩, ⟨ga, 4, a.map Bo⟩]) [2, 3] (by decide) rfl
              refine OPS.nil ?_
              refine ⟨(by first | exact H | exact H.drop (List.sublist_cons_self _ _) | exact H.drop ((List.sublist_cons_self _ _).trans (List.sublist_cons_self _ _)) | exact H.drop ((List.sublist_cons_self _ _).trans ((List.sublist_cons_self _ _).trans (List.sublist_cons_self _ _)))), ?_⟩
              refine OPH.take 14 rfl rfl rfl rfl (by kernel_rfl) (by kernel_rfl) (by kernel_rfl) rfl (by first | exact H | exact H.drop (List.sublist_cons_self _ _) | exact H.drop ((List.sublist_cons_self _ _).trans (List.sublist_cons_self _ _)) | exact H.drop ((List.sublist_cons_self _ _).trans ((List.sublist_cons_self _ _).trans (List.sublist_cons_self _ _)))) (fun w H => Ev.fieldAddr (fld_run rfl) rfl) ?_
              refine OPH.all [15] (by kernel_rfl) (by simp) rfl ?_
              intro i hi; simp only [List.mem_cons, List.not_mem_nil, or_false] at hi
              rcases hi with rfl
              · refine ⟨_, rfl, ?_⟩
                refine OPS.store 1 _ rfl rfl rfl (size_run rfl) rfl (cS rfl) rfl rfl Hf rfl (by simp) ?_
                clear H Hf; intro w Hf
                replace Hf := Hf.drop (L' := ([⟨g6, 24, [I C, I R, .slice D1 (n + 1) e1]⟩, ⟨g2, 24, [I R, I C, .slice (some ⟨b, o, none⟩) zs.length cap]⟩, ⟨ga, 4, a.map Bo⟩] ++ Mo2) ++ No1) (List.sublist_cons_self _ _)
                replace Hf := Hf.perm (perm_swap3 [_, _, _] No1 Mo2)
                have H := Hf.reidx (L' := [⟨g2, 24, [I R, I C, .slice (some ⟨b, o, none⟩) zs.length cap]⟩, ⟨ga, 4, a.map Bo⟩]) [1, 2] (by decide) rfl
                refine OPS.nil ?_
                refine ⟨(by first | exact H | exact H.drop (List.sublist_cons_self _ _) | exact H.drop ((List.sublist_cons_self _ _).trans (List.sublist_cons_self _ _)) | exact H.drop ((List.sublist_cons_self _ _).trans ((List.sublist_cons_self _ _).trans (List.sublist_cons_self _ _)))), ?_⟩
                refine OPH.done (by kernel_rfl) ?_
                exact ⟨(by repeat (first | exact Agree.refl _ _ | exact Agree.mix _ _ _ | refine Agree.upd rfl ?_ | refine Agree.mix2 rfl ?_)), D1, e1, No1, hO1, Hf⟩
        · refine ⟨_, rfl, ?_⟩
          try replace Hf := Hf.toBelow hbw12
          refine OPS.buildSlice rfl rfl rfl rfl (bsl_22_1_0 rfl) Hf ?_
          clear H Hf; intro g58 w Hf
          have H := Hf.reidx (L' := [⟨g2, 24, [I R, I C, .slice (some ⟨b, o, none⟩) zs.length cap]⟩, ⟨ga, 4, a.map Bo⟩]) [2, 3] (by decide) rfl
          refine OPS.nil ?_
          refine ⟨(by first | exact H | exact H.drop (List.sublist_cons_self _ _) | exact H.drop ((List.sublist_cons_self _ _).trans (List.sublist_cons_self _ _)) | exact H.drop ((List.sublist_cons_self _ _).trans ((List.sublist_cons_self _ _).trans (List.sublist_cons_self _ _)))), ?_⟩
          refine OPH.all [1] (by kernel_rfl) (by simp) rfl ?_
          intro i hi; simp only [List.mem_cons, List.not_mem_nil, or_false] at hi
          rcases hi with rfl
          · refine ⟨_, rfl, ?_⟩
            try replace Hf := Hf.toBelow hbw12
            refine OPS.val rfl rfl rfl (Ev.load1 (agg_run rfl) rfl (by first | exact Hf.ldL 0 rfl _ rfl | exact Hf.ldL 1 rfl _ rfl)) ?_
            refine OPS.nil ?_
            refine ⟨(by first | exact H | exact H.drop (List.sublist_cons_self _ _) | exact H.drop ((List.sublist_cons_self _ _).trans (List.sublist_cons_self _ _)) | exact H.drop ((List.sublist_cons_self _ _).trans ((List.sublist_cons_self _ _).trans (List.sublist_cons_self _ _)))), ?_⟩
            refine OPH.all [13] (by kernel_rfl) (by simp) rfl ?_
            intro i hi; simp only [List.mem_cons, List.not_mem_nil, or_false] at hi
            rcases hi with rfl
            · refine ⟨_, rfl, ?_⟩
              replace Hf : SH w0 [] w ([⟨g58, 3, [I zs[p * C + q]]⟩, ⟨g6, 24, [I C, I R, .slice B1 n m1]⟩, ⟨g2, 24, [I R, I C, .slice (some ⟨b, o, none⟩) zs.length cap]⟩, ⟨ga, 4, a.map Bo⟩] ++ (Mo1 ++ Mo2)) := Hf
              refine OPS.append (m := 1) (news := [I zs[p * C + q]]) (R := [⟨g58, 3, [I zs[p * C + q]]⟩, ⟨g6, 24, [I C, I R, .slice B1 n m1]⟩, ⟨g2, 24, [I R, I C, .slice (some ⟨b, o, none⟩) zs.length cap]⟩, ⟨ga, 4, a.map Bo⟩] ++ Mo2) rfl rfl rfl rfl rfl (sl_run rfl) rfl rfl hO1 rfl (src_own Hf 0 rfl) rfl (by omega) (by unfold maxLen; omega) Hf (perm_swap2 _ Mo1 Mo2) ?_
              clear H Hf hO1; intro D1 e1 No1 w hO1 Hf
              have H := Hf.reidx (L' := [⟨g2, 24, [I R, I C, .slice (some ⟨b, o, none⟩) zs.length cap]⟩, ⟨ga, 4, a.map Bo⟩]) [2, 3] (by decide) rfl
              refine OPS.nil ?_
              refine ⟨(by first | exact H | exact H.drop (List.sublist_cons_self _ _) | exact H.drop ((List.sublist_cons_self _ _).trans (List.sublist_cons_self _ _)) | exact H.drop ((List.sublist_cons_self _ _).trans ((List.sublist_cons_self _ _).trans (List.sublist_cons_self _ _)))), ?_⟩
              refine OPH.take 14 rfl rfl rfl rfl (by kernel_rfl) (by kernel_rfl) (by kernel_rfl) rfl (by first | exact H | exact H.drop (List.sublist_cons_self _ _) | exact H.drop ((List.sublist_cons_self _ _).trans (List.sublist_cons_self _ _)) | exact H.drop ((List.sublist_cons_self _ _).trans ((List.sublist_cons_self _ _).trans (List.sublist_cons_self _ _)))) (fun w H => Ev.fieldAddr (fld_run rfl) rfl) ?_
              refine OPH.all [15] (by kernel_rfl) (by simp) rfl ?_
              intro i hi; simp only [List.mem_cons, List.not_mem_nil, or_false] at hi
              rcases hi with rfl
              · refine ⟨_, rfl, ?_⟩
                refine OPS.store 1 _ rfl rfl rfl (size_run rfl) rfl (cS rfl) rfl rfl Hf rfl (by simp) ?_
                clear H Hf; intro w Hf
                replace Hf := Hf.drop (L' := ([⟨g6, 24, [I C, I R, .slice D1 (n + 1) e1]⟩, ⟨g2, 24, [I R, I C, .slice (some ⟨b, o, none⟩) zs.length cap]⟩, ⟨ga, 4, a.map Bo⟩] ++ Mo2) ++ No1) (List.sublist_cons_self _ _)
                replace Hf := Hf.perm (perm_swap3 [_, _, _] No1 Mo2)
                have H := Hf.reidx (L' := [⟨g2, 24, [I R, I C, .slice (some ⟨b, o, none⟩) zs.length cap]⟩, ⟨ga, 4, a.map Bo⟩]) [1, 2] (by decide) rfl
                refine OPS.nil ?_
                refine ⟨(by first | exact H | exact H.drop (List.sublist_cons_self _ _) | exact H.drop ((List.sublist_cons_self _ _).trans (List.sublist_cons_self _ _)) | exact H.drop ((List.sublist_cons_self _ _).trans ((List.sublist_cons_self _ _).trans (List.sublist_cons_self _ _)))), ?_⟩
                refine OPH.done (by kernel_rfl) ?_
                exact ⟨(by repeat (first | exact Agree.refl _ _ | exact Agree.mix _ _ _ | refine Agree.upd rfl ?_ | refine Agree.mix2 rfl ?_)), D1, e1, No1, hO1, Hf⟩
      clear H
      clear hO1
      rintro u4 w ⟨D1, e1, No1, hO1, H⟩
      have c2 : w.cell? ⟨ga, 0 + (p * C + q), none⟩ = some (Bo a[p * C + q]) := by rw [Nat.zero_add]; exact H.ldL 2 rfl (p * C + q) (by simp [hq3])
      refine WP.region ?_
      refine OPS.val rfl rfl rfl (Ev.mvS rfl) ?_
      refine OPS.val rfl rfl rfl (Ev.mvS rfl) ?_
      refine OPS.val rfl rfl rfl (Ev.mvI rfl) ?_
      refine OPS.val rfl rfl rfl (Ev.fieldAddr (fld_run rfl) rfl) ?_
      refine OPS.val rfl rfl rfl (Ev.load1 (agg_run rfl) rfl (by first | exact H.ldL 0 rfl _ rfl | exact H.ldL 1 rfl _ rfl | exact H.ldL 2 rfl _ rfl | exact H.ldL 3 rfl _ rfl | exact H.ldL 4 rfl _ rfl | exact H.ldL 5 rfl _ rfl | exact H.ldL 6 rfl _ rfl | exact H.ldL 7 rfl _ rfl | exact H.ld0 (by assumption) | assumption | exact H.ldS (by assumption) (by assumption))) ?_
      refine OPS.val rfl rfl rfl (Ev.mul rfl rfl (by unfold fits; omega)) ?_
      refine OPS.val rfl rfl rfl (Ev.mvI rfl) ?_
      refine OPS.val rfl rfl rfl (Ev.add rfl rfl (by unfold fits; omega)) ?_
      refine OPS.val rfl rfl rfl ((by first | exact Ev.indexAddr1 (el_run rfl) (size_run rfl) rfl rfl rfl (by omega) | exact Ev.indexAddr (el_run rfl) (size_run rfl) rfl rfl rfl (by omega))) ?_
      refine OPS.val rfl rfl rfl (Ev.load1 (agg_run rfl) rfl (by first | exact H.ldL 0 rfl _ rfl | exact H.ldL 1 rfl _ rfl | exact H.ldL 2 rfl _ rfl | exact H.ldL 3 rfl _ rfl | exact H.ldL 4 rfl _ rfl | exact H.ldL 5 rfl _ rfl | exact H.ldL 6 rfl _ rfl | exact H.ldL 7 rfl _ rfl | exact H.ld0 (by assumption) | assumption | exact H.ldS (by assumption) (by assumption))) ?_
      refine OPS.buildSlice rfl rfl rfl rfl (bsl_25_1_0 rfl) H ?_
      clear H; intro g71 w H
      refine OPS.append (m := 1) (news := [Bo a[p * C + q]]) (R := [⟨g71, 4, [Bo a[p * C + q]]⟩, ⟨g6, 24, [I C, I R, .slice D1 (n + 1) e1]⟩, ⟨g2, 24, [I R, I C, .slice (some ⟨b, o, none⟩) zs.length cap]⟩, ⟨ga, 4, a.map Bo⟩] ++ No1) rfl rfl rfl rfl rfl (sl_run rfl) rfl rfl hO2 rfl (src_own H 0 rfl) rfl (by omega) (by unfold maxLen; omega) H (by rw [List.append_assoc]; exact List.Perm.refl _) ?_
      clear H hO2; intro D2 e2 No2 w hO2 H
      replace H := H.drop (L' := [⟨g6, 24, [I C, I R, .slice D1 (n + 1) e1]⟩, ⟨g2, 24, [I R, I C, .slice (some ⟨b, o, none⟩) zs.length cap]⟩, ⟨ga, 4, a.map Bo⟩] ++ (No1 ++ No2)) (by rw [List.append_assoc]; exact List.sublist_cons_self _ _)
      refine OPS.val rfl rfl rfl (Ev.asS rfl) ?_
      refine OPS.nil ?_
      refine WP.region ?_
      refine OPS.val rfl rfl rfl (Ev.mvI rfl) ?_
      refine OPS.val rfl rfl rfl (Ev.add rfl rfl (by unfold fits; omega)) ?_
      refine OPS.val rfl rfl rfl (Ev.asI rfl) ?_
      refine OPS.nil ?_
      have x1 : (turnL R C zs 0 (n + 1)).map I = (turnL R C zs 0 n).map I ++ [I zs[p * C + q]] := by rw [turnL_succ, hnn, t1, t2]; simp [hidx]
      have x2 : (turnL R C a false (n + 1)).map Bo = (turnL R C a false n).map Bo ++ [Bo a[p * C + q]] := by rw [turnL_succ, hnn, t1, t2]; simp [hq3]
      exact ⟨(by repeat (first | exact Agree.refl _ _ | exact Agree.mix _ _ _ | refine Agree.upd rfl ?_ | refine Agree.mix2 rfl ?_)), k3 - 1, by omega, p + 1, n + 1, D1, D2, e1, e2, No1, No2, by omega, by omega, rfl, rfl, by rw [x1]; exact hO1, by rw [x2]; exact hO2, H⟩
    obtain rfl : p = R := by simp at hc10; omega
    refine WP.exit ?_
    refine XB.hit ?_
    refine WP.region ?_
    refine OPS.val rfl rfl rfl (Ev.mvI rfl) ?_
    refine OPS.val rfl rfl rfl (Ev.add rfl rfl (by unfold fits; omega)) ?_
    refine OPS.val rfl rfl rfl (Ev.asI rfl) ?_
    refine OPS.nil ?_
    refine ⟨(by repeat (first | exact Agree.refl _ _ | exact Agree.mix _ _ _ | refine Agree.upd rfl ?_ | refine Agree.mix2 rfl ?_)), k - 1, by omega, q + 1, B1, B2, m1, m2, Mo1, Mo2, by omega, rfl, ?_, ?_, ?_, ?_⟩
    · rw [Nat.succ_mul, ← hnn]; rfl
    · rw [Nat.succ_mul, ← hnn]; exact hO1
    · rw [Nat.succ_mul, ← hnn]; exact hO2
    · rw [Nat.succ_mul, ← hnn]; exact H
  obtain rfl : q = C := by simp at hc7; omega
  have e : zs.length = q * R := by rw [hn, Nat.mul_comm]
  have hT' : TblOk q R (turnL R q zs 0 (q * R)) := by have := turn_ok hT; rwa [e] at this
  have hul := turnL_length R q zs 0 (q * R)
  have htl := turnL_length R q a false (q * R)
  have hturn : ∀ j lo hi, j < zs.length → XSp q zs a j lo hi → XSp R (turnL R q zs 0 (q * R)) (turnL R q a false (q * R)) (j % q * R + j / q) lo hi := fun j lo hi hj h => by
    have := turn_spans (by omega) (by omega) (by omega) (by omega) hn hj h
    rwa [e] at this
  generalize turnL R q zs 0 (q * R) = us at hO1 hT' hul hturn
  generalize turnL R q a false (q * R) = ts at hO2 htl hturn
  have hU : ∀ w, SH w0 [] w ([⟨g6, 24, [I q, I R, .slice A1 (q * R) k1]⟩, ⟨g2, 24, [I R, I q, .slice A zs.length cap]⟩, ⟨ga, 4, a.map Bo⟩] ++ (Lo1 ++ Lo2)) → IntsAt w A1 us ∧ BoolsAt w A2 ts := fun w H =>
    ⟨(hO1.ones (H.perm (perm_swap2 _ Lo1 Lo2))).1, (hO2.ones (R := [⟨g6, 24, [I q, I R, .slice A1 (q * R) k1]⟩, ⟨g2, 24, [I R, I q, .slice A zs.length cap]⟩, ⟨ga, 4, a.map Bo⟩] ++ Lo1) (by rw [List.append_assoc]; exact H)).1⟩
  refine WP.exit ?_
  refine XB.hit ?_
  refine WP.seq ?_
  refine WP.seq ?_
  refine WP.region ?_
  refine OPS.val rfl rfl rfl (Ev.asI rfl) ?_
  refine OPS.nil ?_
  refine WP.block ?_
  refine WP.loop [4, 10, 11, 12, 13, 14, 73, 74, 75, 76, 77, 78, 79, 80, 81, 82, 83, 84, 85, 86, 87, 88, 89, 90, 91, 92, 93, 94, 95, 96, 97, 98, 99, 100, 101, 102, 103, 104, 105, 106, 107, 108, 109, 110, 111, 112, 113, 114, 115] (fun k e w' => ∃ j : Nat, j + k = zs.length ∧ e 10 = I j ∧ SH w0 [] w' ([⟨g6, 24, [I q, I R, .slice A1 (q * R) k1]⟩, ⟨g2, 24, [I R, I q, .slice A zs.length cap]⟩, ⟨ga, 4, a.map Bo⟩] ++ (Lo1 ++ Lo2))) (zs.length) (⟨0, by omega, rfl, H⟩) ?_
  clear H
  rintro k5 u5 w ⟨j, hk5, h10, H⟩
  refine WP.know (t := 10) h10 ?_
  refine WP.seq ?_
  refine WP.seq ?_
  refine WP.region ?_
  refine OPS.val rfl rfl rfl (Ev.mvI rfl) ?_
  refine OPS.val rfl rfl rfl (Ev.fieldAddr (fld_run rfl) rfl) ?_
  refine OPS.val rfl rfl rfl (Ev.load1 (agg_run rfl) rfl (by first | exact H.ldL 0 rfl _ rfl | exact H.ldL 1 rfl _ rfl | exact H.ldL 2 rfl _ rfl | exact H.ldL 3 rfl _ rfl | exact H.ldL 4 rfl _ rfl | exact H.ldL 5 rfl _ rfl | exact H.ldL 6 rfl _ rfl | exact H.ldL 7 rfl _ rfl | exact H.ld0 (by assumption) | assumption | exact H.ldS (by assumption) (by assumption))) ?_
  refine OPS.val rfl rfl rfl (Ev.len (el_run rfl) rfl) ?_
  refine OPS.val rfl rfl rfl (Ev.lss rfl rfl) ?_
  refine OPS.nil ?_
  refine WP.cond rfl (fun hc15 => ?_) (fun hc15 => ?_)
  · have hlt : j < zs.length := by simp at hc15; omega
    have hjq : j % q < q ∧ j / q < R := turn_idx (R := q) (C := R) (by omega)
    have hj1 : ((j : Int) % q) = (j % q : Nat) := by simp
    have hj2 : ((j : Int) / q) = (j / q : Nat) := by simp
    have hsig := turn_lt hjq.1 hjq.2
    have hm1 : (j : Int) % q * R = ((j % q * R : Nat) : Int) := by simp
    have hs1 : 0 ≤ (j : Int) % q * R ∧ (j : Int) % q * R ≤ 64 ∧ 0 ≤ (j : Int) / q ∧ (j : Int) / q ≤ 64 := by
      rw [hm1, hj2]
      have h64 : q * R ≤ 64 := by omega
      have hs2 := hsig
      generalize j / q = x at hs2 ⊢
      generalize j % q * R = y at hs2 ⊢
      omega
    refine WP.skip ?_
    refine WP.seq ?_
    refine WP.block ?_
    refine WP.seq ?_
    refine WP.region ?_
    refine OPS.val rfl rfl rfl ((by first | exact Ev.loadO 0 H rfl (agg_run rfl) (size_run rfl) (by first | assumption | rfl) rfl | exact Ev.loadO 1 H rfl (agg_run rfl) (size_run rfl) (by first | assumption | rfl) rfl | exact Ev.loadO 2 H rfl (agg_run rfl) (size_run rfl) (by first | assumption | rfl) rfl | exact Ev.loadO 3 H rfl (agg_run rfl) (size_run rfl) (by first | assumption | rfl) rfl | exact Ev.loadO 4 H rfl (agg_run rfl) (size_run rfl) (by first | assumption | rfl) rfl | exact Ev.loadO 5 H rfl (agg_run rfl) (size_run rfl) (by first | assumption | rfl) rfl | exact Ev.loadO 6 H rfl (agg_run rfl) (size_run rfl) (by first | assumption | rfl) rfl | fail)) ?_
    refine OPS.val rfl rfl rfl (Ev.mvS rfl) ?_
    refine OPS.val rfl rfl rfl (Ev.mvI rfl) ?_
    have hR1 := supRange R q j A (some ⟨ga, 0, none⟩) zs a cap zs.length w (hz.sh H) (onesOwn H 2 rfl) hl (by omega)
    rw [ha] at hR1
    refine OPS.call (d := some 84) rfl rfl rfl (EvC.func (fun_run rfl)) (hR1) ?_
    rintro _ w ⟨lo, hi, er, rfl, hR, Hc⟩
    refine ⟨_, rfl, ?_⟩
    clear hR1
    replace H := H.toBelow Hc
    clear Hc
    obtain ⟨rfl, x1, y1, y2, y3⟩ := hR.ok hT ha hlt
    refine OPS.val rfl rfl rfl (Ev.mvT rfl) ?_
    refine OPS.val rfl rfl rfl (Ev.extract rfl rfl) ?_
    refine OPS.val rfl rfl rfl (Ev.extract rfl rfl) ?_
    refine OPS.alloc rfl rfl rfl rfl (zero_run rfl) rfl H ?_
    clear H; intro g11 w H
    first | refine OPS.store 0 _ rfl rfl rfl (size_run rfl) rfl (cA rfl) rfl rfl H rfl (by simp) ?_ | refine OPS.store 1 _ rfl rfl rfl (size_run rfl) rfl (cA rfl) rfl rfl H rfl (by simp) ?_ | refine OPS.store 2 _ rfl rfl rfl (size_run rfl) rfl (cA rfl) rfl rfl H rfl (by simp) ?_ | refine OPS.store 3 _ rfl rfl rfl (size_run rfl) rfl (cA rfl) rfl rfl H rfl (by simp) ?_ | refine OPS.store 4 _ rfl rfl rfl (size_run rfl) rfl (cA rfl) rfl rfl H rfl (by simp) ?_ | refine OPS.store 5 _ rfl rfl rfl (size_run rfl) rfl (cA rfl) rfl rfl H rfl (by simp) ?_ | refine OPS.store 6 _ rfl rfl rfl (size_run rfl) rfl (cA rfl) rfl rfl H rfl (by simp) ?_ | refine OPS.store 7 _ rfl rfl rfl (size_run rfl) rfl (cA rfl) rfl rfl H rfl (by simp) ?_ | refine OPS.store 8 _ rfl rfl rfl (size_run rfl) rfl (cA rfl) rfl rfl H rfl (by simp) ?_
    clear H; intro w H; simp only [List.set_cons_zero, List.set_cons_succ, putL, Nat.zero_add] at H
    refine OPS.val rfl rfl rfl (Ev.asI rfl) ?_
    refine OPS.nil ?_
    refine WP.seq ?_
    refine WP.rheldC [13, 14, 87, 88, 89, 90, 91, 92, 93, 94, 95, 96, 97, 98, 99, 100, 101, 102, 103, 104] (fun u w' => ∃ (g13 : Nat) (lo' hi' er' : Int), u 13 = .pointer (some ⟨g13, 0, none⟩) ∧ u 14 = I er' ∧ RangeRet q R us ts ((j : Int) % q * R + (j : Int) / q) lo' hi' er' ∧ SH w0 [] w' (⟨g13, 28, [I lo', I hi']⟩ :: ⟨g11, 28, [I lo, I hi]⟩ :: ([⟨g6, 24, [I q, I R, .slice A1 (q * R) k1]⟩, ⟨g2, 24, [I R, I q, .slice A zs.length cap]⟩, ⟨ga, 4, a.map Bo⟩] ++ (Lo1 ++ Lo2)))) mixed H ?_ ?_
    · clear H; intro w hbw18 H
      refine OPH.take 0 rfl rfl rfl rfl (by kernel_rfl) (by kernel_rfl) (by kernel_rfl) rfl (by first | exact H | exact H.drop (List.sublist_cons_self _ _) | exact H.drop ((List.sublist_cons_self _ _).trans (List.sublist_cons_self _ _)) | exact H.drop ((List.sublist_cons_self _ _).trans ((List.sublist_cons_self _ _).trans (List.sublist_cons_self _ _)))) (fun w H => (by first | exact Ev.loadO 0 H rfl (agg_run rfl) (size_run rfl) (by first | assumption | rfl) rfl | exact Ev.loadO 1 H rfl (agg_run rfl) (size_run rfl) (by first | assumption | rfl) rfl | exact Ev.loadO 2 H rfl (agg_run rfl) (size_run rfl) (by first | assumption | rfl) rfl | exact Ev.loadO 3 H rfl (agg_run rfl) (size_run rfl) (by first | assumption | rfl) rfl | exact Ev.loadO 4 H rfl (agg_run rfl) (size_run rfl) (by first | assumption | rfl) rfl | exact Ev.loadO 5 H rfl (agg_run rfl) (size_run rfl) (by first | assumption | rfl) rfl | exact Ev.loadO 6 H rfl (agg_run rfl) (size_run rfl) (by first | assumption | rfl) rfl | fail)) ?_
      refine OPH.take 1 rfl rfl rfl rfl (by kernel_rfl) (by kernel_rfl) (by kernel_rfl) rfl (by first | exact H | exact H.drop (List.sublist_cons_self _ _) | exact H.drop ((List.sublist_cons_self _ _).trans (List.sublist_cons_self _ _)) | exact H.drop ((List.sublist_cons_self _ _).trans ((List.sublist_cons_self _ _).trans (List.sublist_cons_self _ _)))) (fun w H => Ev.mvS rfl) ?_
      refine OPH.take 2 rfl rfl rfl rfl (by kernel_rfl) (by kernel_rfl) (by kernel_rfl) rfl (by first | exact H | exact H.drop (List.sublist_cons_self _ _) | exact H.drop ((List.sublist_cons_self _ _).trans (List.sublist_cons_self _ _)) | exact H.drop ((List.sublist_cons_self _ _).trans ((List.sublist_cons_self _ _).trans (List.sublist_cons_self _ _)))) (fun w H => Ev.mvI rfl) ?_
      refine OPH.take 3 rfl rfl rfl rfl (by kernel_rfl) (by kernel_rfl) (by kernel_rfl) rfl (by first | exact H | exact H.drop (List.sublist_cons_self _ _) | exact H.drop ((List.sublist_cons_self _ _).trans (List.sublist_cons_self _ _)) | exact H.drop ((List.sublist_cons_self _ _).trans ((List.sublist_cons_self _ _).trans (List.sublist_cons_self _ _)))) (fun w H => Ev.fieldAddr (fld_run rfl) rfl) ?_
      refine OPH.take 4 rfl rfl rfl rfl (by kernel_rfl) (by kernel_rfl) (by kernel_rfl) rfl (by first | exact H | exact H.drop (List.sublist_cons_self _ _) | exact H.drop ((List.sublist_cons_self _ _).trans (List.sublist_cons_self _ _)) | exact H.drop ((List.sublist_cons_self _ _).trans ((List.sublist_cons_self _ _).trans (List.sublist_cons_self _ _)))) (fun w H => Ev.load1 (agg_run rfl) rfl (by first | exact H.ldL 0 rfl _ rfl | exact H.ldL 1 rfl _ rfl | exact H.ldL 2 rfl _ rfl | exact H.ldL 3 rfl _ rfl | exact H.ldL 4 rfl _ rfl | exact H.ldL 5 rfl _ rfl | exact H.ldL 6 rfl _ rfl | exact H.ldL 7 rfl _ rfl | exact H.ld0 (by assumption) | assumption | exact H.ldS (by assumption) (by assumption))) ?_
      refine OPH.take 5 rfl rfl rfl rfl (by kernel_rfl) (by kernel_rfl) (by kernel_rfl) rfl (by first | exact H | exact H.drop (List.sublist_cons_self _ _) | exact H.drop ((List.sublist_cons_self _ _).trans (List.sublist_cons_self _ _)) | exact H.drop ((List.sublist_cons_self _ _).trans ((List.sublist_cons_self _ _).trans (List.sublist_cons_self _ _)))) (fun w H => Ev.rem rfl rfl (by omega) (by omega)) ?_
      refine OPH.take 6 rfl rfl rfl rfl (by kernel_rfl) (by kernel_rfl) (by kernel_rfl) rfl (by first | exact H | exact H.drop (List.sublist_cons_self _ _) | exact H.drop ((List.sublist_cons_self _ _).trans (List.sublist_cons_self _ _)) | exact H.drop ((List.sublist_cons_self _ _).trans ((List.sublist_cons_self _ _).trans (List.sublist_cons_self _ _)))) (fun w H => Ev.fieldAddr (fld_run rfl) rfl) ?_
      refine OPH.take 7 rfl rfl rfl rfl (by kernel_rfl) (by kernel_rfl) (by kernel_rfl) rfl (by first | exact H | exact H.drop (List.sublist_cons_self _ _) | exact H.drop ((List.sublist_cons_self _ _).trans (List.sublist_cons_self _ _)) | exact H.drop ((List.sublist_cons_self _ _).trans ((List.sublist_cons_self _ _).trans (List.sublist_cons_self _ _)))) (fun w H => Ev.load1 (agg_run rfl) rfl (by first | exact H.ldL 0 rfl _ rfl | exact H.ldL 1 rfl _ rfl | exact H.ldL 2 rfl _ rfl | exact H.ldL 3 rfl _ rfl | exact H.ldL 4 rfl _ rfl | exact H.ldL 5 rfl _ rfl | exact H.ldL 6 rfl _ rfl | exact H.ldL 7 rfl _ rfl | exact H.ld0 (by assumption) | assumption | exact H.ldS (by assumption) (by assumption))) ?_
      refine OPH.take 8 rfl rfl rfl rfl (by kernel_rfl) (by kernel_rfl) (by kernel_rfl) rfl (by first | exact H | exact H.drop (List.sublist_cons_self _ _) | exact H.drop ((List.sublist_cons_self _ _).trans (List.sublist_cons_self _ _)) | exact H.drop ((List.sublist_cons_self _ _).trans ((List.sublist_cons_self _ _).trans (List.sublist_cons_self _ _)))) (fun w H => Ev.mul rfl rfl (by unfold fits; omega)) ?_
      refine OPH.take 9 rfl rfl rfl rfl (by kernel_rfl) (by kernel_rfl) (by kernel_rfl) rfl (by first | exact H | exact H.drop (List.sublist_cons_self _ _) | exact H.drop ((List.sublist_cons_self _ _).trans (List.sublist_cons_self _ _)) | exact H.drop ((List.sublist_cons_self _ _).trans ((List.sublist_cons_self _ _).trans (List.sublist_cons_self _ _)))) (fun w H => Ev.mvI rfl) ?_
      refine OPH.take 10 rfl rfl rfl rfl (by kernel_rfl) (by kernel_rfl) (by kernel_rfl) rfl (by first | exact H | exact H.drop (List.sublist_cons_self _ _) | exact H.drop ((List.sublist_cons_self _ _).trans (List.sublist_cons_self _ _)) | exact H.drop ((List.sublist_cons_self _ _).trans ((List.sublist_cons_self _ _).trans (List.sublist_cons_self _ _)))) (fun w H => Ev.fieldAddr (fld_run rfl) rfl) ?_
      refine OPH.take 11 rfl rfl rfl rfl (by kernel_rfl) (by kernel_rfl) (by kernel_rfl) rfl (by first | exact H | exact H.drop (List.sublist_cons_self _ _) | exact H.drop ((List.sublist_cons_self _ _).trans (List.sublist_cons_self _ _)) | exact H.drop ((List.sublist_cons_self _ _).trans ((List.sublist_cons_self _ _).trans (List.sublist_cons_self _ _)))) (fun w H => Ev.load1 (agg_run rfl) rfl (by first | exact H.ldL 0 rfl _ rfl | exact H.ldL 1 rfl _ rfl | exact H.ldL 2 rfl _ rfl | exact H.ldL 3 rfl _ rfl | exact H.ldL 4 rfl _ rfl | exact H.ldL 5 rfl _ rfl | exact H.ldL 6 rfl _ rfl | exact H.ldL 7 rfl _ rfl | exact H.ld0 (by assumption) | assumption | exact H.ldS (by assumption) (by assumption))) ?_
      refine OPH.take 12 rfl rfl rfl rfl (by kernel_rfl) (by kernel_rfl) (by kernel_rfl) rfl (by first | exact H | exact H.drop (List.sublist_cons_self _ _) | exact H.drop ((List.sublist_cons_self _ _).trans (List.sublist_cons_self _ _)) | exact H.drop ((List.sublist_cons_self _ _).trans ((List.sublist_cons_self _ _).trans (List.sublist_cons_self _ _)))) (fun w H => Ev.quo rfl rfl (by omega) (by omega) (by omega)) ?_
      refine OPH.take 13 rfl rfl rfl rfl (by kernel_rfl) (by kernel_rfl) (by kernel_rfl) rfl (by first | exact H | exact H.drop (List.sublist_cons_self _ _) | exact H.drop ((List.sublist_cons_self _ _).trans (List.sublist_cons_self _ _)) | exact H.drop ((List.sublist_cons_self _ _).trans ((List.sublist_cons_self _ _).trans (List.sublist_cons_self _ _)))) (fun w H => Ev.add rfl rfl (by unfold fits; omega)) ?_
      refine OPH.all [14, 18] (by kernel_rfl) (by simp) rfl ?_
      intro i hi; simp only [List.mem_cons, List.not_mem_nil, or_false] at hi
      rcases hi with rfl | rfl
      · refine ⟨_, rfl, ?_⟩
        have hR2 := supRange q R ((j : Int) % q * R + (j : Int) / q) A1 A2 us ts k1 k2 _ (hU _ (by first | exact H.drop (List.sublist_cons_self _ _) | exact H.drop ((List.sublist_cons_self _ _).trans (List.sublist_cons_self _ _)))).1 (hU _ (by first | exact H.drop (List.sublist_cons_self _ _) | exact H.drop ((List.sublist_cons_self _ _).trans (List.sublist_cons_self _ _)))).2 (by rw [hul]; omega) (by rw [htl]; omega)
        rw [hul, htl] at hR2
        refine OPS.call (d := some 102) rfl rfl rfl (EvC.func (fun_run rfl)) hR2 ?_
        rintro _ w ⟨lo', hi', er', rfl, hR', Hc⟩
        refine ⟨_, rfl, ?_⟩
        clear hR2
        replace H := H.toBelow Hc
        clear Hc
        refine OPS.nil ?_
        refine ⟨(by first | exact H | exact H.drop (List.sublist_cons_self _ _) | exact H.drop ((List.sublist_cons_self _ _).trans (List.sublist_cons_self _ _)) | exact H.drop ((List.sublist_cons_self _ _).trans ((List.sublist_cons_self _ _).trans (List.sublist_cons_self _ _)))), ?_⟩
        refine OPH.take 15 rfl rfl rfl rfl (by kernel_rfl) (by kernel_rfl) (by kernel_rfl) rfl (by first | exact H | exact H.drop (List.sublist_cons_self _ _) | exact H.drop ((List.sublist_cons_self _ _).trans (List.sublist_cons_self _ _)) | exact H.drop ((List.sublist_cons_self _ _).trans ((List.sublist_cons_self _ _).trans (List.sublist_cons_self _ _)))) (fun w H => Ev.mvT rfl) ?_
        refine OPH.take 16 rfl rfl rfl rfl (by kernel_rfl) (by kernel_rfl) (by kernel_rfl) rfl (by first | exact H | exact H.drop (List.sublist_cons_self _ _) | exact H.drop ((List.sublist_cons_self _ _).trans (List.sublist_cons_self _ _)) | exact H.drop ((List.sublist_cons_self _ _).trans ((List.sublist_cons_self _ _).trans (List.sublist_cons_self _ _)))) (fun w H => Ev.extract rfl rfl) ?_
        refine OPH.take 17 rfl rfl rfl rfl (by kernel_rfl) (by kernel_rfl) (by kernel_rfl) rfl (by first | exact H | exact H.drop (List.sublist_cons_self _ _) | exact H.drop ((List.sublist_cons_self _ _).trans (List.sublist_cons_self _ _)) | exact H.drop ((List.sublist_cons_self _ _).trans ((List.sublist_cons_self _ _).trans (List.sublist_cons_self _ _)))) (fun w H => Ev.extract rfl rfl) ?_
        refine OPH.all [18] (by kernel_rfl) (by simp) rfl ?_
        intro i hi; simp only [List.mem_cons, List.not_mem_nil, or_false] at hi
        rcases hi with rfl
        · refine ⟨_, rfl, ?_⟩
          refine OPS.alloc rfl rfl rfl rfl (zero_run rfl) rfl H ?_
          clear H; intro g13 w H
          refine OPS.nil ?_
          refine ⟨(by first | exact H | exact H.drop (List.sublist_cons_self _ _) | exact H.drop ((List.sublist_cons_self _ _).trans (List.sublist_cons_self _ _)) | exact H.drop ((List.sublist_cons_self _ _).trans ((List.sublist_cons_self _ _).trans (List.sublist_cons_self _ _)))), ?_⟩
          refine OPH.all [19] (by kernel_rfl) (by simp) rfl ?_
          intro i hi; simp only [List.mem_cons, List.not_mem_nil, or_false] at hi
          rcases hi with rfl
          · refine ⟨_, rfl, ?_⟩
            first | refine OPS.store 0 _ rfl rfl rfl (size_run rfl) rfl (cA rfl) rfl rfl H rfl (by simp) ?_ | refine OPS.store 1 _ rfl rfl rfl (size_run rfl) rfl (cA rfl) rfl rfl H rfl (by simp) ?_ | refine OPS.store 2 _ rfl rfl rfl (size_run rfl) rfl (cA rfl) rfl rfl H rfl (by simp) ?_ | refine OPS.store 3 _ rfl rfl rfl (size_run rfl) rfl (cA rfl) rfl rfl H rfl (by simp) ?_ | refine OPS.store 4 _ rfl rfl rfl (size_run rfl) rfl (cA rfl) rfl rfl H rfl (by simp) ?_ | refine OPS.store 5 _ rfl rfl rfl (size_run rfl) rfl (cA rfl) rfl rfl H rfl (by simp) ?_ | refine OPS.store 6 _ rfl rfl rfl (size_run rfl) rfl (cA rfl) rfl rfl H rfl (by simp) ?_ | refine OPS.store 7 _ rfl rfl rfl (size_run rfl) rfl (cA rfl) rfl rfl H rfl (by simp) ?_ | refine OPS.store 8 _ rfl rfl rfl (size_run rfl) rfl (cA rfl) rfl rfl H rfl (by simp) ?_
            clear H; intro w H; simp only [List.set_cons_zero, List.set_cons_succ, putL, Nat.zero_add] at H
            refine OPS.nil ?_
            refine ⟨(by first | exact H | exact H.drop (List.sublist_cons_self _ _) | exact H.drop ((List.sublist_cons_self _ _).trans (List.sublist_cons_self _ _)) | exact H.drop ((List.sublist_cons_self _ _).trans ((List.sublist_cons_self _ _).trans (List.sublist_cons_self _ _)))), ?_⟩
            refine OPH.take 20 rfl rfl rfl rfl (by kernel_rfl) (by kernel_rfl) (by kernel_rfl) rfl (by first | exact H | exact H.drop (List.sublist_cons_self _ _) | exact H.drop ((List.sublist_cons_self _ _).trans (List.sublist_cons_self _ _)) | exact H.drop ((List.sublist_cons_self _ _).trans ((List.sublist_cons_self _ _).trans (List.sublist_cons_self _ _)))) (fun w H => Ev.asI rfl) ?_
            refine OPH.done (by kernel_rfl) ?_
            exact ⟨(by repeat (first | exact Agree.refl _ _ | exact Agree.mix _ _ _ | refine Agree.upd rfl ?_ | refine Agree.mix2 rfl ?_)), g13, lo', hi', er', rfl, rfl, hR', H⟩
      · refine ⟨_, rfl, ?_⟩
        refine OPS.alloc rfl rfl rfl rfl (zero_run rfl) rfl H ?_
        clear H; intro g13 w H
        refine OPS.nil ?_
        refine ⟨(by first | exact H | exact H.drop (List.sublist_cons_self _ _) | exact H.drop ((List.sublist_cons_self _ _).trans (List.sublist_cons_self _ _)) | exact H.drop ((List.sublist_cons_self _ _).trans ((List.sublist_cons_self _ _).trans (List.sublist_cons_self _ _)))), ?_⟩
        refine OPH.all [14] (by kernel_rfl) (by simp) rfl ?_
        intro i hi; simp only [List.mem_cons, List.not_mem_nil, or_false] at hi
        rcases hi with rfl
        · refine ⟨_, rfl, ?_⟩
          have hR2 := supRange q R ((j : Int) % q * R + (j : Int) / q) A1 A2 us ts k1 k2 _ (hU _ (by first | exact H.drop (List.sublist_cons_self _ _) | exact H.drop ((List.sublist_cons_self _ _).trans (List.sublist_cons_self _ _)))).1 (hU _ (by first | exact H.drop (List.sublist_cons_self _ _) | exact H.drop ((List.sublist_cons_self _ _).trans (List.sublist_cons_self _ _)))).2 (by rw [hul]; omega) (by rw [htl]; omega)
          rw [hul, htl] at hR2
          refine OPS.call (d := some 102) rfl rfl rfl (EvC.func (fun_run rfl)) hR2 ?_
          rintro _ w ⟨lo', hi', er', rfl, hR', Hc⟩
          refine ⟨_, rfl, ?_⟩
          clear hR2
          replace H := H.toBelow Hc
          clear Hc
          refine OPS.nil ?_
          refine ⟨(by first | exact H | exact H.drop (List.sublist_cons_self _ _) | exact H.drop ((List.sublist_cons_self _ _).trans (List.sublist_cons_self _ _)) | exact H.drop ((List.sublist_cons_self _ _).trans ((List.sublist_cons_self _ _).trans (List.sublist_cons_self _ _)))), ?_⟩
          refine OPH.take 15 rfl rfl rfl rfl (by kernel_rfl) (by kernel_rfl) (by kernel_rfl) rfl (by first | exact H | exact H.drop (List.sublist_cons_self _ _) | exact H.drop ((List.sublist_cons_self _ _).trans (List.sublist_cons_self _ _)) | exact H.drop ((List.sublist_cons_self _ _).trans ((List.sublist_cons_self _ _).trans (List.sublist_cons_self _ _)))) (fun w H => Ev.mvT rfl) ?_
          refine OPH.take 16 rfl rfl rfl rfl (by kernel_rfl) (by kernel_rfl) (by kernel_rfl) rfl (by first | exact H | exact H.drop (List.sublist_cons_self _ _) | exact H.drop ((List.sublist_cons_self _ _).trans (List.sublist_cons_self _ _)) | exact H.drop ((List.sublist_cons_self _ _).trans ((List.sublist_cons_self _ _).trans (List.sublist_cons_self _ _)))) (fun w H => Ev.extract rfl rfl) ?_
          refine OPH.take 17 rfl rfl rfl rfl (by kernel_rfl) (by kernel_rfl) (by kernel_rfl) rfl (by first | exact H | exact H.drop (List.sublist_cons_self _ _) | exact H.drop ((List.sublist_cons_self _ _).trans (List.sublist_cons_self _ _)) | exact H.drop ((List.sublist_cons_self _ _).trans ((List.sublist_cons_self _ _).trans (List.sublist_cons_self _ _)))) (fun w H => Ev.extract rfl rfl) ?_
          refine OPH.all [19] (by kernel_rfl) (by simp) rfl ?_
          intro i hi; simp only [List.mem_cons, List.not_mem_nil, or_false] at hi
          rcases hi with rfl
          · refine ⟨_, rfl, ?_⟩
            first | refine OPS.store 0 _ rfl rfl rfl (size_run rfl) rfl (cA rfl) rfl rfl H rfl (by simp) ?_ | refine OPS.store 1 _ rfl rfl rfl (size_run rfl) rfl (cA rfl) rfl rfl H rfl (by simp) ?_ | refine OPS.store 2 _ rfl rfl rfl (size_run rfl) rfl (cA rfl) rfl rfl H rfl (by simp) ?_ | refine OPS.store 3 _ rfl rfl rfl (size_run rfl) rfl (cA rfl) rfl rfl H rfl (by simp) ?_ | refine OPS.store 4 _ rfl rfl rfl (size_run rfl) rfl (cA rfl) rfl rfl H rfl (by simp) ?_ | refine OPS.store 5 _ rfl rfl rfl (size_run rfl) rfl (cA rfl) rfl rfl H rfl (by simp) ?_ | refine OPS.store 6 _ rfl rfl rfl (size_run rfl) rfl (cA rfl) rfl rfl H rfl (by simp) ?_ | refine OPS.store 7 _ rfl rfl rfl (size_run rfl) rfl (cA rfl) rfl rfl H rfl (by simp) ?_ | refine OPS.store 8 _ rfl rfl rfl (size_run rfl) rfl (cA rfl) rfl rfl H rfl (by simp) ?_
            clear H; intro w H; simp only [List.set_cons_zero, List.set_cons_succ, putL, Nat.zero_add] at H
            refine OPS.nil ?_
            refine ⟨(by first | exact H | exact H.drop (List.sublist_cons_self _ _) | exact H.drop ((List.sublist_cons_self _ _).trans (List.sublist_cons_self _ _)) | exact H.drop ((List.sublist_cons_self _ _).trans ((List.sublist_cons_self _ _).trans (List.sublist_cons_self _ _)))), ?_⟩
            refine OPH.take 20 rfl rfl rfl rfl (by kernel_rfl) (by kernel_rfl) (by kernel_rfl) rfl (by first | exact H | exact H.drop (List.sublist_cons_self _ _) | exact H.drop ((List.sublist_cons_self _ _).trans (List.sublist_cons_self _ _)) | exact H.drop ((List.sublist_cons_self _ _).trans ((List.sublist_cons_self _ _).trans (List.sublist_cons_self _ _)))) (fun w H => Ev.asI rfl) ?_
            refine OPH.done (by kernel_rfl) ?_
            exact ⟨(by repeat (first | exact Agree.refl _ _ | exact Agree.mix _ _ _ | refine Agree.upd rfl ?_ | refine Agree.mix2 rfl ?_)), g13, lo', hi', er', rfl, rfl, hR', H⟩
    clear H
    rintro u6 w ⟨g13, lo', hi', er', h13, h14, hR', H⟩
    refine WP.know (t := 13) h13 (WP.know (t := 14) h14 ?_)
    rw [hj1, hj2, ← Int.natCast_mul, ← Int.natCast_add] at hR'
    obtain ⟨rfl, x2, z1, z2, z3⟩ := hR'.ok hT' (by omega) (by omega)
    obtain ⟨rfl, rfl⟩ := (hturn j lo hi hlt x1).inj hT' x2
    refine WP.seq ?_
    refine WP.region ?_
    refine OPS.val rfl rfl rfl (Ev.mvI rfl) ?_
    refine OPS.val rfl rfl rfl (Ev.neq rfl rfl) ?_
    refine OPS.val rfl rfl rfl (Ev.mvB rfl) ?_
    refine OPS.gval rfl rfl rfl rfl rfl (fun hg => Ev.mvI (by first | rfl | exact gvE hg rfl)) ?_
    refine OPS.gval rfl rfl rfl rfl rfl (fun hg => Ev.neq (by first | rfl | exact gvE hg rfl) (by first | rfl | exact gvE hg rfl)) ?_
    refine OPS.val rfl rfl rfl ((by first | exact Ev.pickOr rfl rfl rfl | exact Ev.pickAnd rfl rfl rfl)) ?_
    refine OPS.val rfl rfl rfl (Ev.mvB rfl) ?_
    refine OPS.gval rfl rfl rfl rfl rfl (fun hg => (by first | exact Ev.loadO 0 H rfl (agg_run rfl) (size_run rfl) (by first | assumption | rfl) rfl | exact Ev.loadO 1 H rfl (agg_run rfl) (size_run rfl) (by first | assumption | rfl) rfl | exact Ev.loadO 2 H rfl (agg_run rfl) (size_run rfl) (by first | assumption | rfl) rfl | exact Ev.loadO 3 H rfl (agg_run rfl) (size_run rfl) (by first | assumption | rfl) rfl | exact Ev.loadO 4 H rfl (agg_run rfl) (size_run rfl) (by first | assumption | rfl) rfl | exact Ev.loadO 5 H rfl (agg_run rfl) (size_run rfl) (by first | assumption | rfl) rfl | exact Ev.loadO 6 H rfl (agg_run rfl) (size_run rfl) (by first | assumption | rfl) rfl | fail)) ?_
    refine OPS.gval rfl rfl rfl rfl rfl (fun hg => (by first | exact Ev.loadO 0 H rfl (agg_run rfl) (size_run rfl) (by first | assumption | rfl) rfl | exact Ev.loadO 1 H rfl (agg_run rfl) (size_run rfl) (by first | assumption | rfl) rfl | exact Ev.loadO 2 H rfl (agg_run rfl) (size_run rfl) (by first | assumption | rfl) rfl | exact Ev.loadO 3 H rfl (agg_run rfl) (size_run rfl) (by first | assumption | rfl) rfl | exact Ev.loadO 4 H rfl (agg_run rfl) (size_run rfl) (by first | assumption | rfl) rfl | exact Ev.loadO 5 H rfl (agg_run rfl) (size_run rfl) (by first | assumption | rfl) rfl | exact Ev.loadO 6 H rfl (agg_run rfl) (size_run rfl) (by first | assumption | rfl) rfl | fail)) ?_
    refine OPS.gval rfl rfl rfl rfl rfl (fun hg => Ev.neqA eqG28 (eqS28 _ _ _ _) (by first | rfl | exact gvE hg rfl) (by first | rfl | exact gvE hg rfl)) ?_
    refine OPS.val rfl rfl rfl ((by first | exact Ev.pickOr rfl rfl rfl | exact Ev.pickAnd rfl rfl rfl)) ?_
    refine OPS.nil ?_
    refine WP.cond rfl (fun hc19 => ?_) (fun hc19 => ?_)
    · refine WP.seq ?_
      refine WP.region ?_
      refine OPS.val rfl rfl rfl (Ev.asB rfl) ?_
      refine OPS.nil ?_
      refine WP.ret ⟨_, rfl, ?_⟩
      simp at hc19
    refine WP.skip ?_
    refine WP.region ?_
    refine OPS.val rfl rfl rfl (Ev.mvI rfl) ?_
    refine OPS.val rfl rfl rfl (Ev.add rfl rfl (by unfold fits; omega)) ?_
    refine OPS.val rfl rfl rfl (Ev.asI rfl) ?_
    refine OPS.nil ?_
    refine ⟨(by repeat (first | exact Agree.refl _ _ | exact Agree.mix _ _ _ | refine Agree.upd rfl ?_ | refine Agree.mix2 rfl ?_)), k5 - 1, by omega, j + 1, by omega, rfl, H.drop ((List.sublist_cons_self _ _).trans (List.sublist_cons_self _ _))⟩
  refine WP.exit ?_
  refine XB.hit ?_
  refine WP.seq ?_
  refine WP.region ?_
  refine OPS.call (d := some 116) rfl rfl rfl (EvC.func (fun_run rfl)) (lawAwake w) ?_
  rintro _ w ⟨rfl, Hc⟩
  refine ⟨_, rfl, ?_⟩
  replace H := H.toBelow Hc
  refine OPS.val rfl rfl rfl (Ev.asB rfl) ?_
  refine OPS.nil ?_
  refine WP.ret ⟨_, rfl, ?_⟩
  exact ⟨rfl, H.below⟩
end Go.Proofs.Ytmkgfgnpgoegcaa
