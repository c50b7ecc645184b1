/-
  Walks: the reference's Hide, Same.
-/
import Derived.Test.YtmkgfgnpgoegcaaT22
set_option linter.all false
namespace Go.Proofs.Ytmkgfgnpgoegcaa
open Go Go.W Go.RowKit

/-- the run of Hide, over what unsafe may return -/
inductive HideG (U : List Bool → Int → Prop) (c : Int) : List Bool → List Bool → Int → Prop
  | done {hid} (hU : U hid (-1)) : HideG U c hid hid 0
  | empty {hid} (i : Nat) (hi : i < hid.length) (hU : U hid i) (hN : NextRet c i hid (-1)) : HideG U c hid [] 10
  | step {hid out er} (i k : Nat) (hi : i < hid.length) (hU : U hid i) (hN : NextRet c i hid k) (hR : HideG U c (hid.set k true) out er) : HideG U c hid out er
def RefHideRet (r c : Int) (zs : List Int) (least width : Int) (hid : List Bool) (er : Int) : Prop :=
  (hideErr r c zs least width ≠ 0 ∧ hid = [] ∧ er = hideErr r c zs least width) ∨ (hideErr r c zs least width = 0 ∧ TblOk r c zs ∧ HideG (fun h x => UnsafeG (RSp c zs h) h width x) c (smallL zs least) hid er)

set_option maxHeartbeats 1000000 in
theorem refHide (r c least width : Int) (A : Option Addr) (zs : List Int) (cap : Nat) (w0 : World) (hz : IntsAt w0 A zs) (hl : zs.length ≤ maxLen) :
    Calls Try.prog 16 #[.agg #[I r, I c, .slice A zs.length cap], I least, I width] w0
      fun e w' => ∃ (A' : Option Addr) (hid : List Bool) (er : Int), e = .returned (.tuple #[.slice A' hid.length hid.length, I er]) ∧ RefHideRet r c zs least width hid er ∧ BoolsAt w' A' hid ∧ Below w0.heap.size w0 w' := by
  have H := SH.refl w0
  refine Calls.ofWP Try.func16 rfl Try.results16 Try.ntmps16 rfl ?_
  refine WP.seq ?_
  refine WP.region ?_
  refine OPS.box rfl rfl rfl rfl (cA rfl) H ?_
  clear H; intro g3 w H
  refine OPS.val rfl rfl rfl (Ev.asS rfl) ?_
  refine OPS.val rfl rfl rfl (Ev.asI rfl) ?_
  refine OPS.nil ?_
  refine WP.seq ?_
  refine WP.seq ?_
  refine WP.region ?_
  refine OPS.val rfl rfl rfl ((by first | exact Ev.loadO 0 H rfl (agg_run rfl) (size_run rfl) (by first | assumption | rfl) rfl | exact Ev.loadO 1 H rfl (agg_run rfl) (size_run rfl) (by first | assumption | rfl) rfl | exact Ev.loadO 2 H rfl (agg_run rfl) (size_run rfl) (by first | assumption | rfl) rfl | exact Ev.loadO 3 H rfl (agg_run rfl) (size_run rfl) (by first | assumption | rfl) rfl | exact Ev.loadO 4 H rfl (agg_run rfl) (size_run rfl) (by first | assumption | rfl) rfl | exact Ev.loadO 5 H rfl (agg_run rfl) (size_run rfl) (by first | assumption | rfl) rfl | exact Ev.loadO 6 H rfl (agg_run rfl) (size_run rfl) (by first | assumption | rfl) rfl | fail)) ?_
  refine OPS.call (d := some 14) rfl rfl rfl (EvC.func (fun_run rfl)) (refTblCheck r c A zs cap w (hz.sh H) hl) ?_
  rintro _ w ⟨rfl, hb⟩
  refine ⟨_, rfl, ?_⟩
  replace H := H.toBelow hb; clear hb
  refine OPS.val rfl rfl rfl (Ev.asI rfl) ?_
  refine OPS.nil ?_
  refine WP.seq ?_
  refine WP.region ?_
  refine OPS.val rfl rfl rfl (Ev.mvI rfl) ?_
  refine OPS.val rfl rfl rfl (Ev.neq rfl rfl) ?_
  refine OPS.nil ?_
  refine WP.cond rfl (fun hc2 => ?_) (fun hc2 => ?_)
  · refine WP.seq ?_
    refine WP.region ?_
    refine OPS.val rfl rfl rfl (Ev.mvI rfl) ?_
    refine OPS.val rfl rfl rfl (Ev.asS rfl) ?_
    refine OPS.val rfl rfl rfl (Ev.asI rfl) ?_
    refine OPS.nil ?_
    refine WP.ret ⟨_, rfl, ?_⟩
    have h : tblErr r c zs ≠ 0 := by simpa using hc2
    have he : hideErr r c zs least width = tblErr r c zs := by simp [hideErr, sup1, h]
    exact ⟨none, [], _, rfl, .inl ⟨by rw [he]; exact h, rfl, he.symm⟩, OnesAt.nil, H.below⟩
  have h0 : tblErr r c zs = 0 := by simpa using hc2
  have hok := cellsOk_of h0
  refine WP.skip ?_
  refine WP.seq ?_
  refine WP.seq ?_
  refine WP.region ?_
  refine OPS.val rfl rfl rfl ((by first | exact Ev.loadO 0 H rfl (agg_run rfl) (size_run rfl) (by first | assumption | rfl) rfl | exact Ev.loadO 1 H rfl (agg_run rfl) (size_run rfl) (by first | assumption | rfl) rfl | exact Ev.loadO 2 H rfl (agg_run rfl) (size_run rfl) (by first | assumption | rfl) rfl | exact Ev.loadO 3 H rfl (agg_run rfl) (size_run rfl) (by first | assumption | rfl) rfl | exact Ev.loadO 4 H rfl (agg_run rfl) (size_run rfl) (by first | assumption | rfl) rfl | exact Ev.loadO 5 H rfl (agg_run rfl) (size_run rfl) (by first | assumption | rfl) rfl | exact Ev.loadO 6 H rfl (agg_run rfl) (size_run rfl) (by first | assumption | rfl) rfl | fail)) ?_
  refine OPS.call (d := some 19) rfl rfl rfl (EvC.func (fun_run rfl)) (refNeg r c A zs cap w (hz.sh H) hok.1) ?_
  rintro _ w ⟨rfl, hb⟩
  refine ⟨_, rfl, ?_⟩
  replace H := H.toBelow hb; clear hb
  refine OPS.nil ?_
  refine WP.cond rfl (fun hc4 => ?_) (fun hc4 => ?_)
  · refine WP.seq ?_
    refine WP.region ?_
    refine OPS.val rfl rfl rfl (Ev.asS rfl) ?_
    refine OPS.val rfl rfl rfl (Ev.asI rfl) ?_
    refine OPS.nil ?_
    refine WP.ret ⟨_, rfl, ?_⟩
    have he : hideErr r c zs least width = 1 := by simp [hideErr, sup1, h0, hc4]
    exact ⟨none, [], _, rfl, .inl ⟨by rw [he]; decide, rfl, he.symm⟩, OnesAt.nil, H.below⟩
  refine WP.skip ?_
  refine WP.seq ?_
  refine WP.seq ?_
  refine WP.region ?_
  refine OPS.val rfl rfl rfl ((by first | exact Ev.loadO 0 H rfl (agg_run rfl) (size_run rfl) (by first | assumption | rfl) rfl | exact Ev.loadO 1 H rfl (agg_run rfl) (size_run rfl) (by first | assumption | rfl) rfl | exact Ev.loadO 2 H rfl (agg_run rfl) (size_run rfl) (by first | assumption | rfl) rfl | exact Ev.loadO 3 H rfl (agg_run rfl) (size_run rfl) (by first | assumption | rfl) rfl | exact Ev.loadO 4 H rfl (agg_run rfl) (size_run rfl) (by first | assumption | rfl) rfl | exact Ev.loadO 5 H rfl (agg_run rfl) (size_run rfl) (by first | assumption | rfl) rfl | exact Ev.loadO 6 H rfl (agg_run rfl) (size_run rfl) (by first | assumption | rfl) rfl | fail)) ?_
  refine OPS.call (d := some 21) rfl rfl rfl (EvC.func (fun_run rfl)) (refSum r c A zs cap w (hz.sh H) hok) ?_
  rintro _ w ⟨rfl, hb⟩
  refine ⟨_, rfl, ?_⟩
  replace H := H.toBelow hb; clear hb
  refine OPS.val rfl rfl rfl (Ev.gtr rfl rfl) ?_
  refine OPS.nil ?_
  refine WP.cond rfl (fun hc6 => ?_) (fun hc6 => ?_)
  · refine WP.seq ?_
    refine WP.region ?_
    refine OPS.val rfl rfl rfl (Ev.asS rfl) ?_
    refine OPS.val rfl rfl rfl (Ev.asI rfl) ?_
    refine OPS.nil ?_
    refine WP.ret ⟨_, rfl, ?_⟩
    have h : 65536 < zs.sum := by simpa using hc6
    have he : hideErr r c zs least width = 2 := by simp [hideErr, sup1, sup2, h0, hc4, h]
    exact ⟨none, [], _, rfl, .inl ⟨by rw [he]; decide, rfl, he.symm⟩, OnesAt.nil, H.below⟩
  have hsum : ¬ 65536 < zs.sum := by simpa using hc6
  have h1 : sup1 r c zs = 0 := by simp [sup1, h0, hc4]
  have h2 : sup2 r c zs = 0 := by simp [sup2, h1, hsum]
  have hT := tblOk_of h1 h2
  have hlen := hT.len
  have hbd := mul_bd hT.rng
  refine WP.skip ?_
  refine WP.seq ?_
  refine WP.seq ?_
  refine WP.region ?_
  refine OPS.val rfl rfl rfl (Ev.mvI rfl) ?_
  refine OPS.val rfl rfl rfl (Ev.lss rfl rfl) ?_
  refine OPS.val rfl rfl rfl (Ev.mvB rfl) ?_
  refine OPS.gval rfl rfl rfl rfl rfl (fun hg => Ev.mvI (by first | rfl | exact gvE hg rfl)) ?_
  refine OPS.gval rfl rfl rfl rfl rfl (fun hg => Ev.gtr (by first | rfl | exact gvE hg rfl) (by first | rfl | exact gvE hg rfl)) ?_
  refine OPS.val rfl rfl rfl ((by first | exact Ev.pickOr rfl rfl rfl | exact Ev.pickAnd rfl rfl rfl)) ?_
  refine OPS.val rfl rfl rfl (Ev.mvB rfl) ?_
  refine OPS.gval rfl rfl rfl rfl rfl (fun hg => Ev.mvI (by first | rfl | exact gvE hg rfl)) ?_
  refine OPS.gval rfl rfl rfl rfl rfl (fun hg => Ev.lss (by first | rfl | exact gvE hg rfl) (by first | rfl | exact gvE hg rfl)) ?_
  refine OPS.val rfl rfl rfl ((by first | exact Ev.pickOr rfl rfl rfl | exact Ev.pickAnd rfl rfl rfl)) ?_
  refine OPS.val rfl rfl rfl (Ev.mvB rfl) ?_
  refine OPS.gval rfl rfl rfl rfl rfl (fun hg => Ev.mvI (by first | rfl | exact gvE hg rfl)) ?_
  refine OPS.gval rfl rfl rfl rfl rfl (fun hg => Ev.gtr (by first | rfl | exact gvE hg rfl) (by first | rfl | exact gvE hg rfl)) ?_
  refine OPS.val rfl rfl rfl ((by first | exact Ev.pickOr rfl rfl rfl | exact Ev.pickAnd rfl rfl rfl)) ?_
  refine OPS.nil ?_
  refine WP.cond rfl (fun hc8 => ?_) (fun hc8 => ?_)
  · refine WP.seq ?_
    refine WP.region ?_
    refine OPS.val rfl rfl rfl (Ev.asS rfl) ?_
    refine OPS.val rfl rfl rfl (Ev.asI rfl) ?_
    refine OPS.nil ?_
    refine WP.ret ⟨_, rfl, ?_⟩
    have h : least < 1 ∨ 1000000 < least ∨ width < 0 ∨ 65536 < width := by
      simp [gv] at hc8; omega
    have he : hideErr r c zs least width = 1 := by rw [hideErr, if_neg (by simp [h1]), if_neg (by simp [h2]), if_pos h]
    exact ⟨none, [], 1, rfl, .inl ⟨by rw [he]; decide, rfl, he.symm⟩, OnesAt.nil, H.below⟩
  have h : ¬ (least < 1 ∨ 1000000 < least ∨ width < 0 ∨ 65536 < width) := by
    simp [gv] at hc8; omega
  have he : hideErr r c zs least width = 0 := by rw [hideErr, if_neg (by simp [h1]), if_neg (by simp [h2]), if_neg h]
  refine WP.skip ?_
  refine WP.seq ?_
  refine WP.region ?_
  refine OPS.val rfl rfl rfl (Ev.fieldAddr (fld_run rfl) rfl) ?_
  refine OPS.val rfl rfl rfl (Ev.load1 (agg_run rfl) rfl (by first | exact H.ldL 0 rfl _ rfl | exact H.ldL 1 rfl _ rfl | exact H.ldL 2 rfl _ rfl | exact H.ldL 3 rfl _ rfl | exact H.ldL 4 rfl _ rfl | exact H.ldL 5 rfl _ rfl | exact H.ldL 6 rfl _ rfl | exact H.ldL 7 rfl _ rfl | exact H.ld0 (by assumption) | assumption | exact H.ldS (by assumption) (by assumption))) ?_
  refine OPS.val rfl rfl rfl (Ev.len (el_run rfl) rfl) ?_
  refine OPS.makeSlice rfl rfl rfl rfl (sl_run rfl) rfl rfl rfl (by omega) (by omega) H ?_
  clear H; intro g40 w H
  refine OPS.val rfl rfl rfl (Ev.asS rfl) ?_
  refine OPS.nil ?_
  refine WP.seq ?_
  refine WP.seq ?_
  refine WP.region ?_
  refine OPS.val rfl rfl rfl (Ev.asI rfl) ?_
  refine OPS.nil ?_
  refine WP.block ?_
  refine WP.loop [10, 41, 42, 43, 44, 45, 46, 47, 48, 49, 50, 51, 52, 53, 54, 55, 56, 57, 58, 59, 60, 61, 62, 63, 64] (fun k e w' => ∃ j : Nat, j + k = zs.length ∧ e 10 = I j ∧ SH w0 [] w' [⟨g40, 4, (fillL (smallL zs least) false j).map Bo⟩, ⟨g3, 24, [I r, I c, .slice A zs.length cap]⟩]) (zs.length) (⟨0, by omega, rfl, by rw [fillL_zero, show (smallL zs least).length = zs.length by simp [smallL], ← mkL_ones]; exact H⟩) ?_
  clear H
  rintro k u w ⟨j, hk, h10, H⟩
  refine WP.know (t := 10) h10 ?_
  refine WP.seq ?_
  refine WP.seq ?_
  refine WP.region ?_
  refine OPS.val rfl rfl rfl (Ev.mvI rfl) ?_
  refine OPS.val rfl rfl rfl (Ev.mvS rfl) ?_
  refine OPS.val rfl rfl rfl (Ev.len (el_run rfl) rfl) ?_
  refine OPS.val rfl rfl rfl (Ev.lss rfl rfl) ?_
  refine OPS.nil ?_
  refine WP.cond rfl (fun hc12 => ?_) (fun hc12 => ?_)
  · have hlt : j < zs.length := by simp at hc12; omega
    obtain ⟨b, o, rfl, hc⟩ := hz j hlt
    replace hc := H.ld0 hc
    refine WP.skip ?_
    refine WP.seq ?_
    refine WP.block ?_
    refine WP.region ?_
    refine OPS.val rfl rfl rfl (Ev.mvS rfl) ?_
    refine OPS.val rfl rfl rfl (Ev.mvI rfl) ?_
    refine OPS.val rfl rfl rfl (Ev.fieldAddr (fld_run rfl) rfl) ?_
    refine OPS.val rfl rfl rfl (Ev.load1 (agg_run rfl) rfl (by first | exact H.ldL 0 rfl _ rfl | exact H.ldL 1 rfl _ rfl | exact H.ldL 2 rfl _ rfl | exact H.ldL 3 rfl _ rfl | exact H.ldL 4 rfl _ rfl | exact H.ldL 5 rfl _ rfl | exact H.ldL 6 rfl _ rfl | exact H.ldL 7 rfl _ rfl | exact H.ld0 (by assumption) | assumption | exact H.ldS (by assumption) (by assumption))) ?_
    refine OPS.val rfl rfl rfl (Ev.mvI rfl) ?_
    refine OPS.val rfl rfl rfl ((by first | exact Ev.indexAddr1 (el_run rfl) (size_run rfl) rfl rfl rfl (by omega) | exact Ev.indexAddr (el_run rfl) (size_run rfl) rfl rfl rfl (by omega))) ?_
    refine OPS.val rfl rfl rfl (Ev.load1 (agg_run rfl) rfl (by first | exact H.ldL 0 rfl _ rfl | exact H.ldL 1 rfl _ rfl | exact H.ldL 2 rfl _ rfl | exact H.ldL 3 rfl _ rfl | exact H.ldL 4 rfl _ rfl | exact H.ldL 5 rfl _ rfl | exact H.ldL 6 rfl _ rfl | exact H.ldL 7 rfl _ rfl | exact H.ld0 (by assumption) | assumption | exact H.ldS (by assumption) (by assumption))) ?_
    refine OPS.val rfl rfl rfl (Ev.gtr rfl rfl) ?_
    refine OPS.val rfl rfl rfl (Ev.mvB rfl) ?_
    refine OPS.gval rfl rfl rfl rfl rfl (fun hg => Ev.fieldAddr (fld_run rfl) (by first | rfl | exact gvE hg rfl)) ?_
    refine OPS.gval rfl rfl rfl rfl rfl (fun hg => Ev.load1 (agg_run rfl) (by first | rfl | exact gvE hg rfl) (by first | exact H.ldL 0 rfl _ rfl | exact H.ldL 1 rfl _ rfl | exact H.ldL 2 rfl _ rfl | exact H.ldL 3 rfl _ rfl | exact H.ldL 4 rfl _ rfl | exact H.ldL 5 rfl _ rfl | exact H.ldL 6 rfl _ rfl | exact H.ldL 7 rfl _ rfl | exact H.ld0 (by assumption) | assumption | exact H.ldS (by assumption) (by assumption))) ?_
    refine OPS.gval rfl rfl rfl rfl rfl (fun hg => Ev.mvI (by first | rfl | exact gvE hg rfl)) ?_
    refine OPS.gval rfl rfl rfl rfl rfl (fun hg => (by first | exact Ev.indexAddr1 (el_run rfl) (size_run rfl) (by first | rfl | exact gvE hg rfl) (by first | rfl | exact gvE hg rfl) rfl (by omega) | exact Ev.indexAddr (el_run rfl) (size_run rfl) (by first | rfl | exact gvE hg rfl) (by first | rfl | exact gvE hg rfl) rfl (by omega))) ?_
    refine OPS.gval rfl rfl rfl rfl rfl (fun hg => Ev.load1 (agg_run rfl) (by first | rfl | exact gvE hg rfl) (by first | exact H.ldL 0 rfl _ rfl | exact H.ldL 1 rfl _ rfl | exact H.ldL 2 rfl _ rfl | exact H.ldL 3 rfl _ rfl | exact H.ldL 4 rfl _ rfl | exact H.ldL 5 rfl _ rfl | exact H.ldL 6 rfl _ rfl | exact H.ldL 7 rfl _ rfl | exact H.ld0 (by assumption) | assumption | exact H.ldS (by assumption) (by assumption))) ?_
    refine OPS.gval rfl rfl rfl rfl rfl (fun hg => Ev.mvI (by first | rfl | exact gvE hg rfl)) ?_
    refine OPS.gval rfl rfl rfl rfl rfl (fun hg => Ev.lss (by first | rfl | exact gvE hg rfl) (by first | rfl | exact gvE hg rfl)) ?_
    refine OPS.val rfl rfl rfl ((by first | exact Ev.pickOr rfl rfl rfl | exact Ev.pickAnd rfl rfl rfl)) ?_
    refine OPS.val rfl rfl rfl ((by first | exact Ev.indexAddr1 (el_run rfl) (size_run rfl) rfl rfl rfl (by omega) | exact Ev.indexAddr (el_run rfl) (size_run rfl) rfl rfl rfl (by omega))) ?_
    first | refine OPS.store 0 _ rfl rfl rfl (size_run rfl) rfl (cB rfl) rfl rfl H rfl (by simp [fillL, smallL]; omega) ?_ | refine OPS.store 1 _ rfl rfl rfl (size_run rfl) rfl (cB rfl) rfl rfl H rfl (by simp [fillL, smallL]; omega) ?_ | refine OPS.store 2 _ rfl rfl rfl (size_run rfl) rfl (cB rfl) rfl rfl H rfl (by simp [fillL, smallL]; omega) ?_ | refine OPS.store 3 _ rfl rfl rfl (size_run rfl) rfl (cB rfl) rfl rfl H rfl (by simp [fillL, smallL]; omega) ?_ | refine OPS.store 4 _ rfl rfl rfl (size_run rfl) rfl (cB rfl) rfl rfl H rfl (by simp [fillL, smallL]; omega) ?_ | refine OPS.store 5 _ rfl rfl rfl (size_run rfl) rfl (cB rfl) rfl rfl H rfl (by simp [fillL, smallL]; omega) ?_ | refine OPS.store 6 _ rfl rfl rfl (size_run rfl) rfl (cB rfl) rfl rfl H rfl (by simp [fillL, smallL]; omega) ?_ | refine OPS.store 7 _ rfl rfl rfl (size_run rfl) rfl (cB rfl) rfl rfl H rfl (by simp [fillL, smallL]; omega) ?_ | refine OPS.store 8 _ rfl rfl rfl (size_run rfl) rfl (cB rfl) rfl rfl H rfl (by simp [fillL, smallL]; omega) ?_
    clear H; intro w H; simp only [List.set_cons_zero, List.set_cons_succ, putL, Nat.zero_add] at H
    refine OPS.nil ?_
    refine WP.region ?_
    refine OPS.val rfl rfl rfl (Ev.mvI rfl) ?_
    refine OPS.val rfl rfl rfl (Ev.add rfl rfl (by unfold fits; omega)) ?_
    refine OPS.val rfl rfl rfl (Ev.asI rfl) ?_
    refine OPS.nil ?_
    refine ⟨(by repeat (first | exact Agree.refl _ _ | exact Agree.mix _ _ _ | refine Agree.upd rfl ?_ | refine Agree.mix2 rfl ?_)), k - 1, by omega, j + 1, by omega, rfl, ?_⟩
    have hj2 : j < (smallL zs least).length := by simpa [smallL] using hlt
    rw [← fillL_set _ _ _ hj2, ← putL_ones, show (smallL zs least)[j] = (decide (0 < zs[j]) && decide (zs[j] < least)) by simp [smallL]; congr]
    exact H
  obtain rfl : j = zs.length := by simp at hc12; omega
  have hsl : (smallL zs least).length = zs.length := by simp [smallL]
  rw [show fillL (smallL zs least) false zs.length = smallL zs least by rw [← hsl]; exact fillL_all _ _] at H
  generalize hsm : smallL zs least = sm at H hsl
  refine WP.exit ?_
  refine XB.hit ?_
  refine WP.seq ?_
  refine WP.seq ?_
  refine WP.region ?_
  refine OPS.val rfl rfl rfl ((by first | exact Ev.loadO 0 H rfl (agg_run rfl) (size_run rfl) (by first | assumption | rfl) rfl | exact Ev.loadO 1 H rfl (agg_run rfl) (size_run rfl) (by first | assumption | rfl) rfl | exact Ev.loadO 2 H rfl (agg_run rfl) (size_run rfl) (by first | assumption | rfl) rfl | exact Ev.loadO 3 H rfl (agg_run rfl) (size_run rfl) (by first | assumption | rfl) rfl | exact Ev.loadO 4 H rfl (agg_run rfl) (size_run rfl) (by first | assumption | rfl) rfl | exact Ev.loadO 5 H rfl (agg_run rfl) (size_run rfl) (by first | assumption | rfl) rfl | exact Ev.loadO 6 H rfl (agg_run rfl) (size_run rfl) (by first | assumption | rfl) rfl | fail)) ?_
  refine OPS.val rfl rfl rfl (Ev.mvS rfl) ?_
  refine OPS.val rfl rfl rfl (Ev.mvI rfl) ?_
  have hU := refUnsafe r c width A (some ⟨g40, 0, none⟩) zs sm cap zs.length w hT hsl (hz.sh H) (onesOwn H 0 rfl)
  rw [hsl] at hU
  refine OPS.call (d := some 68) rfl rfl rfl (EvC.func (fun_run rfl)) (hU) ?_
  rintro _ w ⟨x0, rfl, hx0, Hc⟩
  refine ⟨_, rfl, ?_⟩
  clear hU
  replace H := H.toBelow Hc
  clear Hc
  refine OPS.val rfl rfl rfl (Ev.asI rfl) ?_
  refine OPS.nil ?_
  refine WP.block ?_
  refine WP.loop [6, 7, 11, 12, 69, 70, 71, 72, 73, 74, 75, 76, 77, 78, 79, 80, 81, 82, 83] (fun k e w' => ∃ (hd : List Bool) (x : Int), hd.length = zs.length ∧ openN hd = k ∧ e 11 = I x ∧ UnsafeG (RSp c zs hd) hd width x ∧ (∀ out er, HideG (fun h x => UnsafeG (RSp c zs h) h width x) c hd out er → HideG (fun h x => UnsafeG (RSp c zs h) h width x) c sm out er) ∧ SH w0 [] w' [⟨g40, 4, hd.map Bo⟩, ⟨g3, 24, [I r, I c, .slice A zs.length cap]⟩]) (openN sm) (⟨sm, x0, hsl, rfl, rfl, hx0, fun _ _ h => h, H⟩) ?_
  clear H
  rintro k u w ⟨hd, x, hdl, hk, h11, hx, hrun, H⟩
  refine WP.know (t := 11) h11 ?_
  refine WP.seq ?_
  refine WP.seq ?_
  refine WP.region ?_
  refine OPS.val rfl rfl rfl (Ev.mvI rfl) ?_
  refine OPS.val rfl rfl rfl (Ev.geq rfl rfl) ?_
  refine OPS.nil ?_
  refine WP.cond rfl (fun hc16 => ?_) (fun hc16 => ?_)
  · obtain ⟨i, rfl, hi, hx'⟩ : ∃ i : Nat, x = i ∧ i < hd.length ∧ UnsafeG (RSp c zs hd) hd width i := by
      have : ¬ x < 0 := by simpa using hc16
      rcases hx with ⟨rfl, _⟩ | ⟨i, rfl, hi, h3⟩
      · omega
      · exact ⟨i, rfl, hi, .inr ⟨i, rfl, hi, h3⟩⟩
    clear hx
    refine WP.skip ?_
    refine WP.seq ?_
    refine WP.block ?_
    refine WP.seq ?_
    refine WP.region ?_
    refine OPS.val rfl rfl rfl ((by first | exact Ev.loadO 0 H rfl (agg_run rfl) (size_run rfl) (by first | assumption | rfl) rfl | exact Ev.loadO 1 H rfl (agg_run rfl) (size_run rfl) (by first | assumption | rfl) rfl | exact Ev.loadO 2 H rfl (agg_run rfl) (size_run rfl) (by first | assumption | rfl) rfl | exact Ev.loadO 3 H rfl (agg_run rfl) (size_run rfl) (by first | assumption | rfl) rfl | exact Ev.loadO 4 H rfl (agg_run rfl) (size_run rfl) (by first | assumption | rfl) rfl | exact Ev.loadO 5 H rfl (agg_run rfl) (size_run rfl) (by first | assumption | rfl) rfl | exact Ev.loadO 6 H rfl (agg_run rfl) (size_run rfl) (by first | assumption | rfl) rfl | fail)) ?_
    refine OPS.val rfl rfl rfl (Ev.mvS rfl) ?_
    refine OPS.val rfl rfl rfl (Ev.mvI rfl) ?_
    have hU := refNext r c i A (some ⟨g40, 0, none⟩) zs hd cap zs.length w hT hdl (by omega) (onesOwn H 0 rfl)
    rw [hdl] at hU
    refine OPS.call (d := some 78) rfl rfl rfl (EvC.func (fun_run rfl)) (hU) ?_
    rintro _ w ⟨y, rfl, hy, Hc⟩
    refine ⟨_, rfl, ?_⟩
    clear hU
    replace H := H.toBelow Hc
    clear Hc
    refine OPS.val rfl rfl rfl (Ev.asI rfl) ?_
    refine OPS.nil ?_
    refine WP.seq ?_
    refine WP.seq ?_
    refine WP.region ?_
    refine OPS.val rfl rfl rfl (Ev.mvI rfl) ?_
    refine OPS.val rfl rfl rfl (Ev.lss rfl rfl) ?_
    refine OPS.nil ?_
    refine WP.cond rfl (fun hc19 => ?_) (fun hc19 => ?_)
    · refine WP.seq ?_
      refine WP.region ?_
      refine OPS.val rfl rfl rfl (Ev.asS rfl) ?_
      refine OPS.val rfl rfl rfl (Ev.asI rfl) ?_
      refine OPS.nil ?_
      refine WP.ret ⟨_, rfl, ?_⟩
      have hy0 : y = -1 := by
        have : y < 0 := by simpa using hc19
        rcases hy with ⟨h, _⟩ | ⟨_, k, h, _⟩
        · exact h
        · omega
      subst hy0
      refine ⟨none, [], 10, rfl, .inr ⟨he, hT, hsm ▸ hrun _ _ (.empty i hi hx' hy)⟩, OnesAt.nil, H.below⟩
    obtain ⟨q, rfl, hq, hqf⟩ := hy.lt (by simpa using hc19)
    have hq2 : q < zs.length := by omega
    refine WP.skip ?_
    refine WP.region ?_
    refine OPS.val rfl rfl rfl (Ev.mvS rfl) ?_
    refine OPS.val rfl rfl rfl (Ev.mvI rfl) ?_
    refine OPS.val rfl rfl rfl ((by first | exact Ev.indexAddr1 (el_run rfl) (size_run rfl) rfl rfl rfl (by omega) | exact Ev.indexAddr (el_run rfl) (size_run rfl) rfl rfl rfl (by omega))) ?_
    refine OPS.store 0 _ rfl rfl rfl (size_run rfl) rfl (cB rfl) rfl rfl H rfl (by simp; omega) ?_
    clear H; intro w H
    replace H : SH w0 [] w [⟨g40, 4, (hd.set q true).map Bo⟩, ⟨g3, 24, [I r, I c, .slice A zs.length cap]⟩] := by
      rw [← putL_ones]
      have H : SH w0 [] w [⟨g40, 4, putL (hd.map Bo) (0 + q) [Bo true]⟩, _] := H
      rw [Nat.zero_add] at H; exact H
    have hdl2 : (hd.set q true).length = zs.length := by simpa using hdl
    refine OPS.nil ?_
    refine WP.region ?_
    refine OPS.val rfl rfl rfl ((by first | exact Ev.loadO 0 H rfl (agg_run rfl) (size_run rfl) (by first | assumption | rfl) rfl | exact Ev.loadO 1 H rfl (agg_run rfl) (size_run rfl) (by first | assumption | rfl) rfl | exact Ev.loadO 2 H rfl (agg_run rfl) (size_run rfl) (by first | assumption | rfl) rfl | exact Ev.loadO 3 H rfl (agg_run rfl) (size_run rfl) (by first | assumption | rfl) rfl | exact Ev.loadO 4 H rfl (agg_run rfl) (size_run rfl) (by first | assumption | rfl) rfl | exact Ev.loadO 5 H rfl (agg_run rfl) (size_run rfl) (by first | assumption | rfl) rfl | exact Ev.loadO 6 H rfl (agg_run rfl) (size_run rfl) (by first | assumption | rfl) rfl | fail)) ?_
    refine OPS.val rfl rfl rfl (Ev.mvS rfl) ?_
    refine OPS.val rfl rfl rfl (Ev.mvI rfl) ?_
    have hU := refUnsafe r c width A (some ⟨g40, 0, none⟩) zs (hd.set q true) cap zs.length w hT hdl2 (hz.sh H) (onesOwn H 0 rfl)
    rw [hdl2] at hU
    refine OPS.call (d := some 74) rfl rfl rfl (EvC.func (fun_run rfl)) (hU) ?_
    rintro _ w ⟨x1, rfl, hx1, Hc⟩
    refine ⟨_, rfl, ?_⟩
    clear hU
    replace H := H.toBelow Hc
    clear Hc
    refine OPS.val rfl rfl rfl (Ev.asI rfl) ?_
    refine OPS.nil ?_
    exact ⟨(by repeat (first | exact Agree.refl _ _ | exact Agree.mix _ _ _ | refine Agree.upd rfl ?_ | refine Agree.mix2 rfl ?_)), openN (hd.set q true), by rw [← hk]; exact openN_set hd q hq hqf, hd.set q true, x1, hdl2, rfl, rfl, hx1, fun out er h => hrun _ _ (.step i q hi hx' hy h), H⟩
  refine WP.exit ?_
  refine XB.hit ?_
  refine WP.seq ?_
  refine WP.region ?_
  refine OPS.val rfl rfl rfl (Ev.mvS rfl) ?_
  refine OPS.val rfl rfl rfl (Ev.asS rfl) ?_
  refine OPS.val rfl rfl rfl (Ev.asI rfl) ?_
  refine OPS.nil ?_
  refine WP.ret ⟨_, rfl, ?_⟩
  have hx0 : x = -1 := by
    have : ¬ 0 ≤ x := by simpa using hc16
    rcases hx.neg with h | h
    · exact h
    · omega
  subst hx0
  refine ⟨some ⟨g40, 0, none⟩, hd, 0, by rw [hdl]; rfl, .inr ⟨he, hT, hsm ▸ hrun _ _ (.done hx)⟩, onesOwn H 0 rfl, H.below⟩

theorem refSame (A B : Option Addr) (xs ys : List Bool) (cap cap2 : Nat) (w0 : World) (hx : BoolsAt w0 A xs) (hy : BoolsAt w0 B ys) (hl : xs.length ≤ maxLen) :
    Calls Try.prog 17 #[.slice A xs.length cap, .slice B ys.length cap2] w0
      fun e w' => e = .returned (.bool (decide (xs = ys))) ∧ Below w0.heap.size w0 w' := by
  unfold maxLen at hl
  have H := SH.refl w0
  refine Calls.ofWP Try.func17 rfl Try.results17 Try.ntmps17 rfl ?_
  refine WP.seq ?_
  refine WP.region ?_
  refine OPS.val rfl rfl rfl (Ev.asB rfl) ?_
  refine OPS.nil ?_
  refine WP.seq ?_
  refine WP.seq ?_
  refine WP.region ?_
  refine OPS.val rfl rfl rfl (Ev.mvS rfl) ?_
  refine OPS.val rfl rfl rfl (Ev.len (el_run rfl) rfl) ?_
  refine OPS.val rfl rfl rfl (Ev.mvS rfl) ?_
  refine OPS.val rfl rfl rfl (Ev.len (el_run rfl) rfl) ?_
  refine OPS.val rfl rfl rfl (Ev.neq rfl rfl) ?_
  refine OPS.nil ?_
  refine WP.cond rfl (fun hc1 => ?_) (fun hc1 => ?_)
  · refine WP.seq ?_
    refine WP.region ?_
    refine OPS.val rfl rfl rfl (Ev.asB rfl) ?_
    refine OPS.nil ?_
    refine WP.ret ⟨_, rfl, ?_⟩
    have h : xs.length ≠ ys.length := by simp at hc1; omega
    exact ⟨by rw [decide_eq_false (fun e : xs = ys => h (by rw [e]))]; rfl, H.below⟩
  have h : xs.length = ys.length := by simp at hc1; omega
  refine WP.skip ?_
  refine WP.seq ?_
  refine WP.seq ?_
  refine WP.region ?_
  refine OPS.val rfl rfl rfl (Ev.asI rfl) ?_
  refine OPS.nil ?_
  refine WP.block ?_
  refine WP.loop [4, 5, 11, 12, 13, 14, 15, 16, 17, 18, 19, 20, 21, 22, 23, 24, 25] (fun k e w' => ∃ j : Nat, j + k = xs.length ∧ e 5 = I j ∧ (∀ i, i < j → xs[i]? = ys[i]?) ∧ SH w0 [] w' []) (xs.length) (⟨0, by omega, rfl, fun i hi => absurd hi (by omega), H⟩) ?_
  clear H
  rintro k u w ⟨j, hk, h5, hall, H⟩
  refine WP.know (t := 5) h5 ?_
  refine WP.seq ?_
  refine WP.seq ?_
  refine WP.region ?_
  refine OPS.val rfl rfl rfl (Ev.mvI rfl) ?_
  refine OPS.val rfl rfl rfl (Ev.mvS rfl) ?_
  refine OPS.val rfl rfl rfl (Ev.len (el_run rfl) rfl) ?_
  refine OPS.val rfl rfl rfl (Ev.lss rfl rfl) ?_
  refine OPS.nil ?_
  refine WP.cond rfl (fun hc4 => ?_) (fun hc4 => ?_)
  · have hlt : j < xs.length := by simp at hc4; omega
    have hlt2 : j < ys.length := by omega
    obtain ⟨b, o, rfl, hc⟩ := hx j hlt
    obtain ⟨b2, o2, rfl, hd⟩ := hy j hlt2
    refine WP.skip ?_
    refine WP.seq ?_
    refine WP.block ?_
    refine WP.seq ?_
    refine WP.rstill mixed (by kernel_rfl) H ?_
    clear H; intro w hbw6 H
    refine OPS.val rfl rfl rfl (Ev.mvS rfl) ?_
    refine OPS.val rfl rfl rfl (Ev.mvI rfl) ?_
    refine OPS.val rfl rfl rfl ((by first | exact Ev.indexAddr1 (el_run rfl) (size_run rfl) rfl rfl rfl (by omega) | exact Ev.indexAddr (el_run rfl) (size_run rfl) rfl rfl rfl (by omega))) ?_
    refine OPS.val rfl rfl rfl (Ev.load1 (agg_run rfl) rfl (by first | exact H.ldL 0 rfl _ rfl | exact H.ldL 1 rfl _ rfl | exact H.ldL 2 rfl _ rfl | exact H.ldL 3 rfl _ rfl | exact H.ldL 4 rfl _ rfl | exact H.ldL 5 rfl _ rfl | exact H.ldL 6 rfl _ rfl | exact H.ldL 7 rfl _ rfl | exact H.ld0 (by assumption) | assumption | exact H.ldS (by assumption) (by assumption))) ?_
    refine OPS.val rfl rfl rfl (Ev.mvS rfl) ?_
    refine OPS.val rfl rfl rfl (Ev.mvI rfl) ?_
    refine OPS.val rfl rfl rfl ((by first | exact Ev.indexAddr1 (el_run rfl) (size_run rfl) rfl rfl rfl (by omega) | exact Ev.indexAddr (el_run rfl) (size_run rfl) rfl rfl rfl (by omega))) ?_
    refine OPS.val rfl rfl rfl (Ev.load1 (agg_run rfl) rfl (by first | exact H.ldL 0 rfl _ rfl | exact H.ldL 1 rfl _ rfl | exact H.ldL 2 rfl _ rfl | exact H.ldL 3 rfl _ rfl | exact H.ldL 4 rfl _ rfl | exact H.ldL 5 rfl _ rfl | exact H.ldL 6 rfl _ rfl | exact H.ldL 7 rfl _ rfl | exact H.ld0 (by assumption) | assumption | exact H.ldS (by assumption) (by assumption))) ?_
    refine OPS.val rfl rfl rfl (Ev.neqB Try.runUnderlying4 rfl rfl) ?_
    refine OPS.nil_s ?_
    refine WP.cond rfl (fun hc6 => ?_) (fun hc6 => ?_)
    · refine WP.seq ?_
      refine WP.region ?_
      refine OPS.val rfl rfl rfl (Ev.asB rfl) ?_
      refine OPS.nil ?_
      refine WP.ret ⟨_, rfl, ?_⟩
      have h2 : xs ≠ ys := fun e => by subst e; simp at hc6
      exact ⟨by rw [decide_eq_false h2]; rfl, H.below⟩
    refine WP.skip ?_
    refine WP.region ?_
    refine OPS.val rfl rfl rfl (Ev.mvI rfl) ?_
    refine OPS.val rfl rfl rfl (Ev.add rfl rfl (by unfold fits; omega)) ?_
    refine OPS.val rfl rfl rfl (Ev.asI rfl) ?_
    refine OPS.nil ?_
    refine ⟨(by repeat (first | exact Agree.refl _ _ | exact Agree.mix _ _ _ | refine Agree.upd rfl ?_ | refine Agree.mix2 rfl ?_)), k - 1, by omega, j + 1, by omega, rfl, fun i hi => ?_, H⟩
    by_cases hij : i < j
    · exact hall i hij
    · obtain rfl : i = j := by omega
      rw [List.getElem?_eq_getElem hlt, List.getElem?_eq_getElem hlt2]
      simpa using hc6
  refine WP.exit ?_
  refine XB.hit ?_
  refine WP.seq ?_
  refine WP.region ?_
  refine OPS.val rfl rfl rfl (Ev.asB rfl) ?_
  refine OPS.nil ?_
  refine WP.ret ⟨_, rfl, ?_⟩
  have hj : j = xs.length := by simp at hc4; omega
  subst hj
  have h2 : xs = ys := List.ext_getElem? fun i => by
    by_cases hi : i < xs.length
    · exact hall i hi
    · rw [List.getElem?_eq_none (by omega), List.getElem?_eq_none (by omega)]
  exact ⟨by rw [decide_eq_true h2]; rfl, H.below⟩
end Go.Proofs.Ytmkgfgnpgoegcaa
