/-
  Walk: suppress.network.
-/
import Derived.Test.YtmkgfgnpgoegcaaT9
set_option linter.all false
namespace Go.Proofs.Ytmkgfgnpgoegcaa
open Go Go.W Go.RowKit

def cellArcs (r c : Int) (i : Nat) (x : Int) : List Arc := [⟨r + (i : Int) % c, (i : Int) / c, x, 0⟩, ⟨(i : Int) / c, r + (i : Int) % c, 65536, 0⟩]
def netCond (hid : List Bool) (but : Int) (i : Nat) : Bool := hid.getD i false && !decide ((i : Int) = but)
def netArcs (r c : Int) (zs : List Int) (hid : List Bool) (but : Int) : Nat → List Arc
  | 0 => []
  | k + 1 => netArcs r c zs hid but k ++ (if netCond hid but k = true then cellArcs r c k (zs.getD k 0) else [])
theorem netArcs_len (r c : Int) (zs : List Int) (hid : List Bool) (but : Int) : ∀ k, (netArcs r c zs hid but k).length ≤ 2 * k
  | 0 => by simp [netArcs]
  | k + 1 => by
    have := netArcs_len r c zs hid but k
    rw [netArcs, List.length_append]
    split <;> simp [cellArcs] <;> omega
theorem arcCells_len (a : Arc) : (arcCells a).length = 4 := rfl

set_option maxHeartbeats 1000000 in
theorem supNetwork (r c but : Int) (A B : Option Addr) (zs : List Int) (hid : List Bool) (cap cap2 : Nat) (w0 : World) (hr : TblRange r c) (hl : zs.length ≤ 64) (hh : hid.length = zs.length) (hz : IntsAt w0 A zs) (hb : BoolsAt w0 B hid) :
    Calls Try.prog 36 #[.agg #[I r, I c, .slice A zs.length cap], .slice B hid.length cap2, I but] w0
      fun e w' => ∃ (A' : Option Addr) (cap' : Nat) (Lo : List Blk), e = .returned (.agg #[I (r + c), .slice A' (netArcs r c zs hid but zs.length).length cap']) ∧ OwnS A' cap' (netArcs r c zs hid but zs.length).length ((netArcs r c zs hid but zs.length).flatMap arcCells) 76 4 Lo ∧ SH w0 [] w' Lo := by
  have H := SH.refl w0
  obtain ⟨r1, r2, c1, c2⟩ := hr
  refine Calls.ofWPc Try.func36 rfl Try.results36 Try.ntmps36 rfl ?_
  refine WP.seq ?_
  refine WP.region ?_
  refine OPS.box rfl rfl rfl rfl (cA rfl) H ?_
  clear H; intro g3 w H
  refine OPS.alloc rfl rfl rfl rfl (zero_run rfl) rfl H ?_
  clear H; intro g6 w H
  refine OPS.nil ?_
  refine WP.seq ?_
  refine WP.region ?_
  refine OPS.val rfl rfl rfl (Ev.fieldAddr (fld_run rfl) rfl) ?_
  refine OPS.val rfl rfl rfl (Ev.load1 (agg_run rfl) rfl (by first | exact H.ldL 0 rfl _ rfl | exact H.ldL 1 rfl _ rfl | exact H.ldL 2 rfl _ rfl | exact H.ldL 3 rfl _ rfl | exact H.ldL 4 rfl _ rfl | exact H.ldL 5 rfl _ rfl | exact H.ldL 6 rfl _ rfl | exact H.ldL 7 rfl _ rfl | exact H.ld0 (by assumption) | assumption | exact H.ldS (by assumption) (by assumption))) ?_
  refine OPS.val rfl rfl rfl (Ev.fieldAddr (fld_run rfl) rfl) ?_
  refine OPS.val rfl rfl rfl (Ev.load1 (agg_run rfl) rfl (by first | exact H.ldL 0 rfl _ rfl | exact H.ldL 1 rfl _ rfl | exact H.ldL 2 rfl _ rfl | exact H.ldL 3 rfl _ rfl | exact H.ldL 4 rfl _ rfl | exact H.ldL 5 rfl _ rfl | exact H.ldL 6 rfl _ rfl | exact H.ldL 7 rfl _ rfl | exact H.ld0 (by assumption) | assumption | exact H.ldS (by assumption) (by assumption))) ?_
  refine OPS.val rfl rfl rfl (Ev.add rfl rfl (by unfold fits; omega)) ?_
  refine OPS.val rfl rfl rfl (Ev.build (bld_68_0 rfl)) ?_
  refine OPS.alloc rfl rfl rfl rfl (zero_run rfl) rfl H ?_
  clear H; intro g7 w H
  first | refine OPS.store 0 _ rfl rfl rfl (size_run rfl) rfl (cA rfl) rfl rfl H rfl (by simp) ?_ | refine OPS.store 1 _ rfl rfl rfl (size_run rfl) rfl (cA rfl) rfl rfl H rfl (by simp) ?_ | refine OPS.store 2 _ rfl rfl rfl (size_run rfl) rfl (cA rfl) rfl rfl H rfl (by simp) ?_ | refine OPS.store 3 _ rfl rfl rfl (size_run rfl) rfl (cA rfl) rfl rfl H rfl (by simp) ?_ | refine OPS.store 4 _ rfl rfl rfl (size_run rfl) rfl (cA rfl) rfl rfl H rfl (by simp) ?_ | refine OPS.store 5 _ rfl rfl rfl (size_run rfl) rfl (cA rfl) rfl rfl H rfl (by simp) ?_ | refine OPS.store 6 _ rfl rfl rfl (size_run rfl) rfl (cA rfl) rfl rfl H rfl (by simp) ?_ | refine OPS.store 7 _ rfl rfl rfl (size_run rfl) rfl (cA rfl) rfl rfl H rfl (by simp) ?_ | refine OPS.store 8 _ rfl rfl rfl (size_run rfl) rfl (cA rfl) rfl rfl H rfl (by simp) ?_
  clear H; intro w H; simp only [List.set_cons_zero, List.set_cons_succ, putL, Nat.zero_add] at H
  refine OPS.nil ?_
  refine WP.seq ?_
  refine WP.seq ?_
  refine WP.region ?_
  refine OPS.val rfl rfl rfl (Ev.fieldAddr (fld_run rfl) rfl) ?_
  refine OPS.val rfl rfl rfl (Ev.load1 (agg_run rfl) rfl (by first | exact H.ldL 0 rfl _ rfl | exact H.ldL 1 rfl _ rfl | exact H.ldL 2 rfl _ rfl | exact H.ldL 3 rfl _ rfl | exact H.ldL 4 rfl _ rfl | exact H.ldL 5 rfl _ rfl | exact H.ldL 6 rfl _ rfl | exact H.ldL 7 rfl _ rfl | exact H.ld0 (by assumption) | assumption | exact H.ldS (by assumption) (by assumption))) ?_
  refine OPS.val rfl rfl rfl (Ev.len (el_run rfl) rfl) ?_
  refine OPS.val rfl rfl rfl (Ev.mvI rfl) ?_
  refine OPS.nil ?_
  refine WP.block ?_
  refine WP.loop [8, 9, 10, 11, 21, 22, 23, 24, 25, 26, 27, 28, 29, 30, 31, 32, 33, 34, 35, 36, 37, 38, 39, 40, 41, 42, 43, 44, 45, 46, 47, 48, 49, 50, 51, 52, 53, 54, 55, 56, 57, 58] (fun k e w' => ∃ (j : Nat) (A' : Option Addr) (cap' : Nat) (Lo : List Blk), j + k = zs.length ∧ e 21 = I j ∧ OwnS A' cap' (netArcs r c zs hid but j).length ((netArcs r c zs hid but j).flatMap arcCells) 76 4 Lo ∧ SH w0 [] w' ([⟨g7, 68, [I (r + c), .slice A' (netArcs r c zs hid but j).length cap']⟩, ⟨g6, 68, [I 0, .slice none 0 0]⟩, ⟨g3, 24, [I r, I c, .slice A zs.length cap]⟩] ++ Lo)) (zs.length) (⟨0, none, 0, [], by omega, rfl, OwnS.nil, H.reidx [0, 1, 2] (by decide) rfl⟩) ?_
  clear H
  rintro k u w ⟨j, A', cap', Lo, hk, h21, hO, H⟩
  refine WP.know (t := 21) h21 ?_
  generalize hna : netArcs r c zs hid but j = ac at hO H
  refine WP.seq ?_
  refine WP.region ?_
  refine OPS.val rfl rfl rfl (Ev.lss rfl rfl) ?_
  refine OPS.nil ?_
  refine WP.seq ?_
  refine WP.cond rfl (fun hc3 => ?_) (fun hc3 => ?_)
  · have hlt : j < zs.length := by simpa using hc3
    have hlt2 : j < hid.length := by omega
    obtain ⟨b, o, rfl, hc⟩ := hz j hlt
    obtain ⟨b2, o2, rfl, hd⟩ := hb j hlt2
    have hq : 0 ≤ (j : Int) / c ∧ (j : Int) / c ≤ j := ⟨Int.ediv_nonneg (by omega) (by omega), Int.ediv_le_self _ (by omega)⟩
    have hm : 0 ≤ (j : Int) % c ∧ (j : Int) % c < c := ⟨Int.emod_nonneg _ (by omega), Int.emod_lt_of_pos _ (by omega)⟩
    have hal := netArcs_len r c zs hid but j
    rw [hna] at hal
    have hcond : netCond hid but j = (hid[j] && !decide ((j : Int) = but)) := by unfold netCond; simp [hlt2]
    refine WP.skip ?_
    refine WP.seq ?_
    refine WP.block ?_
    refine WP.seq ?_
    refine WP.region ?_
    refine OPS.val rfl rfl rfl (Ev.mvI rfl) ?_
    refine OPS.val rfl rfl rfl ((by first | exact Ev.indexAddr1 (el_run rfl) (size_run rfl) rfl rfl rfl (by omega) | exact Ev.indexAddr (el_run rfl) (size_run rfl) rfl rfl rfl (by omega))) ?_
    refine OPS.val rfl rfl rfl (Ev.load1 (agg_run rfl) rfl (by first | exact H.ldL 0 rfl _ rfl | exact H.ldL 1 rfl _ rfl | exact H.ldL 2 rfl _ rfl | exact H.ldL 3 rfl _ rfl | exact H.ldL 4 rfl _ rfl | exact H.ldL 5 rfl _ rfl | exact H.ldL 6 rfl _ rfl | exact H.ldL 7 rfl _ rfl | exact H.ld0 (by assumption) | assumption | exact H.ldS (by assumption) (by assumption))) ?_
    refine OPS.val rfl rfl rfl (Ev.asI rfl) ?_
    refine OPS.val rfl rfl rfl (Ev.asI rfl) ?_
    refine OPS.nil ?_
    refine WP.seq ?_
    refine WP.rstill mixed (by kernel_rfl) H ?_
    clear H; intro w hbw5 H
    refine OPS.val rfl rfl rfl (Ev.mvI rfl) ?_
    refine OPS.val rfl rfl rfl (Ev.fieldAddr (fld_run rfl) rfl) ?_
    refine OPS.val rfl rfl rfl (Ev.load1 (agg_run rfl) rfl (by first | exact H.ldL 0 rfl _ rfl | exact H.ldL 1 rfl _ rfl | exact H.ldL 2 rfl _ rfl | exact H.ldL 3 rfl _ rfl | exact H.ldL 4 rfl _ rfl | exact H.ldL 5 rfl _ rfl | exact H.ldL 6 rfl _ rfl | exact H.ldL 7 rfl _ rfl | exact H.ld0 (by assumption) | assumption | exact H.ldS (by assumption) (by assumption))) ?_
    refine OPS.val rfl rfl rfl (Ev.quo rfl rfl (by omega) (by omega) (by omega)) ?_
    refine OPS.val rfl rfl rfl (Ev.fieldAddr (fld_run rfl) rfl) ?_
    refine OPS.val rfl rfl rfl (Ev.load1 (agg_run rfl) rfl (by first | exact H.ldL 0 rfl _ rfl | exact H.ldL 1 rfl _ rfl | exact H.ldL 2 rfl _ rfl | exact H.ldL 3 rfl _ rfl | exact H.ldL 4 rfl _ rfl | exact H.ldL 5 rfl _ rfl | exact H.ldL 6 rfl _ rfl | exact H.ldL 7 rfl _ rfl | exact H.ld0 (by assumption) | assumption | exact H.ldS (by assumption) (by assumption))) ?_
    refine OPS.val rfl rfl rfl (Ev.mvI rfl) ?_
    refine OPS.val rfl rfl rfl (Ev.fieldAddr (fld_run rfl) rfl) ?_
    refine OPS.val rfl rfl rfl (Ev.load1 (agg_run rfl) rfl (by first | exact H.ldL 0 rfl _ rfl | exact H.ldL 1 rfl _ rfl | exact H.ldL 2 rfl _ rfl | exact H.ldL 3 rfl _ rfl | exact H.ldL 4 rfl _ rfl | exact H.ldL 5 rfl _ rfl | exact H.ldL 6 rfl _ rfl | exact H.ldL 7 rfl _ rfl | exact H.ld0 (by assumption) | assumption | exact H.ldS (by assumption) (by assumption))) ?_
    refine OPS.val rfl rfl rfl (Ev.rem rfl rfl (by omega) (by omega)) ?_
    refine OPS.val rfl rfl rfl (Ev.add rfl rfl (by unfold fits; omega)) ?_
    refine OPS.val rfl rfl rfl (Ev.asI rfl) ?_
    refine OPS.val rfl rfl rfl (Ev.asI rfl) ?_
    refine OPS.nil_s ?_
    refine WP.seq ?_
    refine WP.region ?_
    refine OPS.val rfl rfl rfl (Ev.mvS rfl) ?_
    refine OPS.val rfl rfl rfl (Ev.mvI rfl) ?_
    refine OPS.val rfl rfl rfl ((by first | exact Ev.indexAddr1 (el_run rfl) (size_run rfl) rfl rfl rfl (by omega) | exact Ev.indexAddr (el_run rfl) (size_run rfl) rfl rfl rfl (by omega))) ?_
    refine OPS.val rfl rfl rfl (Ev.load1 (agg_run rfl) rfl (by first | exact H.ldL 0 rfl _ rfl | exact H.ldL 1 rfl _ rfl | exact H.ldL 2 rfl _ rfl | exact H.ldL 3 rfl _ rfl | exact H.ldL 4 rfl _ rfl | exact H.ldL 5 rfl _ rfl | exact H.ldL 6 rfl _ rfl | exact H.ldL 7 rfl _ rfl | exact H.ld0 (by assumption) | assumption | exact H.ldS (by assumption) (by assumption))) ?_
    refine OPS.val rfl rfl rfl (Ev.mvB rfl) ?_
    refine OPS.gval rfl rfl rfl rfl rfl (fun hg => Ev.mvI (by first | rfl | exact gvE hg rfl)) ?_
    refine OPS.gval rfl rfl rfl rfl rfl (fun hg => Ev.mvI (by first | rfl | exact gvE hg rfl)) ?_
    refine OPS.gval rfl rfl rfl rfl rfl (fun hg => Ev.neq (by first | rfl | exact gvE hg rfl) (by first | rfl | exact gvE hg rfl)) ?_
    refine OPS.val rfl rfl rfl ((by first | exact Ev.pickOr rfl rfl rfl | exact Ev.pickAnd rfl rfl rfl)) ?_
    refine OPS.nil ?_
    refine WP.cond rfl (fun hc6 => ?_) (fun hc6 => ?_)
    · have hn1 : netArcs r c zs hid but (j + 1) = ac ++ cellArcs r c j zs[j] := by
        rw [netArcs, hna, if_pos (by rw [hcond]; exact hc6)]; simp [hlt]
      refine WP.region ?_
      refine OPS.val rfl rfl rfl (Ev.fieldAddr (fld_run rfl) rfl) ?_
      refine OPS.val rfl rfl rfl (Ev.load1 (agg_run rfl) rfl (by first | exact H.ldL 0 rfl _ rfl | exact H.ldL 1 rfl _ rfl | exact H.ldL 2 rfl _ rfl | exact H.ldL 3 rfl _ rfl | exact H.ldL 4 rfl _ rfl | exact H.ldL 5 rfl _ rfl | exact H.ldL 6 rfl _ rfl | exact H.ldL 7 rfl _ rfl | exact H.ld0 (by assumption) | assumption | exact H.ldS (by assumption) (by assumption))) ?_
      refine OPS.val rfl rfl rfl (Ev.mvI rfl) ?_
      refine OPS.val rfl rfl rfl (Ev.mvI rfl) ?_
      refine OPS.val rfl rfl rfl (Ev.mvI rfl) ?_
      refine OPS.val rfl rfl rfl (Ev.build (bld_76_0_1_2 rfl rfl rfl)) ?_
      refine OPS.val rfl rfl rfl (Ev.mvI rfl) ?_
      refine OPS.val rfl rfl rfl (Ev.mvI rfl) ?_
      refine OPS.val rfl rfl rfl (Ev.build (bld_76_0_1_2 rfl rfl rfl)) ?_
      refine OPS.buildSlice rfl rfl rfl rfl (bsl_66_2_0_1 rfl rfl) H ?_
      clear H; intro g55 w H
      refine OPS.append (m := 2) (R := [⟨g55, 76, arcCells ⟨r + (j : Int) % c, (j : Int) / c, zs[j], 0⟩ ++ arcCells ⟨(j : Int) / c, r + (j : Int) % c, 65536, 0⟩⟩, ⟨g7, 68, [I (r + c), .slice A' ac.length cap']⟩, ⟨g6, 68, [I 0, .slice none 0 0]⟩, ⟨g3, 24, [I r, I c, .slice (some ⟨b, o, none⟩) zs.length cap]⟩]) rfl rfl rfl rfl rfl (sl_run rfl) rfl rfl hO rfl (src_own H 0 rfl) rfl (by omega) (by unfold maxLen; omega) H (List.Perm.refl _) ?_
      clear H hO; intro A' cap' Lo w hO H
      refine OPS.val rfl rfl rfl (Ev.fieldAddr (fld_run rfl) rfl) ?_
      refine OPS.store 1 _ rfl rfl rfl (size_run rfl) rfl (cS rfl) rfl rfl H rfl (by simp) ?_
      clear H; intro w H
      replace H := H.drop (L' := [⟨g7, 68, [I (r + c), .slice A' (ac.length + 2) cap']⟩, ⟨g6, 68, [I 0, .slice none 0 0]⟩, ⟨g3, 24, [I r, I c, .slice (some ⟨b, o, none⟩) zs.length cap]⟩] ++ Lo) (List.sublist_cons_self _ _)
      refine OPS.nil ?_
      refine WP.region ?_
      refine OPS.val rfl rfl rfl (Ev.add rfl rfl (by unfold fits; omega)) ?_
      refine OPS.val rfl rfl rfl (Ev.mvI rfl) ?_
      refine OPS.nil ?_
      refine ⟨(by repeat (first | exact Agree.refl _ _ | exact Agree.mix _ _ _ | refine Agree.upd rfl ?_ | refine Agree.mix2 rfl ?_)), k - 1, by omega, j + 1, A', cap', Lo, by omega, rfl, ?_, ?_⟩
      · rw [hn1]; first | exact hO | simpa [cellArcs, arcCells] using hO
      · rw [hn1]; first | exact H | simpa [cellArcs] using H
    have hn1 : netArcs r c zs hid but (j + 1) = ac := by
      rw [netArcs, hna, if_neg (by rw [hcond]; simpa using hc6)]; simp
    refine WP.skip ?_
    refine WP.region ?_
    refine OPS.val rfl rfl rfl (Ev.add rfl rfl (by unfold fits; omega)) ?_
    refine OPS.val rfl rfl rfl (Ev.mvI rfl) ?_
    refine OPS.nil ?_
    refine ⟨(by repeat (first | exact Agree.refl _ _ | exact Agree.mix _ _ _ | refine Agree.upd rfl ?_ | refine Agree.mix2 rfl ?_)), k - 1, by omega, j + 1, A', cap', Lo, by omega, rfl, ?_, ?_⟩
    · rw [hn1]; first | exact hO | simpa [cellArcs, arcCells] using hO
    · rw [hn1]; first | exact H | simpa [cellArcs] using H
  refine WP.exit ?_
  refine XB.hit ?_
  refine WP.seq ?_
  refine WP.region ?_
  refine OPS.val rfl rfl rfl ((by first | exact Ev.loadO 0 H rfl (agg_run rfl) (size_run rfl) (by first | assumption | rfl) rfl | exact Ev.loadO 1 H rfl (agg_run rfl) (size_run rfl) (by first | assumption | rfl) rfl | exact Ev.loadO 2 H rfl (agg_run rfl) (size_run rfl) (by first | assumption | rfl) rfl | exact Ev.loadO 3 H rfl (agg_run rfl) (size_run rfl) (by first | assumption | rfl) rfl | exact Ev.loadO 4 H rfl (agg_run rfl) (size_run rfl) (by first | assumption | rfl) rfl | exact Ev.loadO 5 H rfl (agg_run rfl) (size_run rfl) (by first | assumption | rfl) rfl | exact Ev.loadO 6 H rfl (agg_run rfl) (size_run rfl) (by first | assumption | rfl) rfl | fail)) ?_
  first | refine OPS.store 0 _ rfl rfl rfl (size_run rfl) rfl (cA rfl) rfl rfl H rfl (by simp) ?_ | refine OPS.store 1 _ rfl rfl rfl (size_run rfl) rfl (cA rfl) rfl rfl H rfl (by simp) ?_ | refine OPS.store 2 _ rfl rfl rfl (size_run rfl) rfl (cA rfl) rfl rfl H rfl (by simp) ?_ | refine OPS.store 3 _ rfl rfl rfl (size_run rfl) rfl (cA rfl) rfl rfl H rfl (by simp) ?_ | refine OPS.store 4 _ rfl rfl rfl (size_run rfl) rfl (cA rfl) rfl rfl H rfl (by simp) ?_ | refine OPS.store 5 _ rfl rfl rfl (size_run rfl) rfl (cA rfl) rfl rfl H rfl (by simp) ?_ | refine OPS.store 6 _ rfl rfl rfl (size_run rfl) rfl (cA rfl) rfl rfl H rfl (by simp) ?_ | refine OPS.store 7 _ rfl rfl rfl (size_run rfl) rfl (cA rfl) rfl rfl H rfl (by simp) ?_ | refine OPS.store 8 _ rfl rfl rfl (size_run rfl) rfl (cA rfl) rfl rfl H rfl (by simp) ?_
  clear H; intro w H; simp only [List.set_cons_zero, List.set_cons_succ, putL, Nat.zero_add] at H
  refine OPS.nil ?_
  refine WP.ret ⟨[_], ⟨(by first | exact resCellA 0 H rfl (agg_run rfl) (size_run rfl) (by first | assumption | rfl) rfl | exact resCellA 1 H rfl (agg_run rfl) (size_run rfl) (by first | assumption | rfl) rfl | exact resCellA 2 H rfl (agg_run rfl) (size_run rfl) (by first | assumption | rfl) rfl | exact resCellA 3 H rfl (agg_run rfl) (size_run rfl) (by first | assumption | rfl) rfl | exact resCellA 4 H rfl (agg_run rfl) (size_run rfl) (by first | assumption | rfl) rfl | exact resCellA 5 H rfl (agg_run rfl) (size_run rfl) (by first | assumption | rfl) rfl | exact resCellA 6 H rfl (agg_run rfl) (size_run rfl) (by first | assumption | rfl) rfl), trivial⟩, ?_⟩
  have hj : j = zs.length := by simp at hc3; omega
  subst hj
  subst hna
  exact ⟨A', cap', Lo, rfl, hO, H.drop (L' := Lo) ((((List.Sublist.refl Lo).cons _).cons _).cons _)⟩
end Go.Proofs.Ytmkgfgnpgoegcaa
