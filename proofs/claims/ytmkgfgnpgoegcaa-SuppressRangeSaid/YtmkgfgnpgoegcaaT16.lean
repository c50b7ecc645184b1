/-
  Walk: suppress.Hide.
-/
import Derived.Test.YtmkgfgnpgoegcaaT12
import Derived.Test.YtmkgfgnpgoegcaaMore
set_option linter.all false
namespace Go.Proofs.Ytmkgfgnpgoegcaa
open Go Go.W Go.RowKit

def smallL (zs : List Int) (least : Int) : List Bool := zs.map fun x => decide (1 ≤ x) && decide (x < least)
inductive HideRun (r c : Int) (zs : List Int) (width : Int) : List Bool → List Bool → Int → Prop
  | done {hid} (hU : UnsafeRet r c zs hid width (-1)) : HideRun r c zs width hid hid 0
  | empty {hid} (i : Nat) (hi : i < hid.length) (hU : UnsafeRet r c zs hid width i) (hN : NextRet c i hid (-1)) : HideRun r c zs width hid [] 10
  | step {hid out er} (i k : Nat) (hi : i < hid.length) (hU : UnsafeRet r c zs hid width i) (hN : NextRet c i hid k) (hR : HideRun r c zs width (hid.set k true) out er) : HideRun r c zs width hid out er
def hideErr (r c : Int) (zs : List Int) (least width : Int) : Int :=
  if sup1 r c zs ≠ 0 then sup1 r c zs else if sup2 r c zs ≠ 0 then sup2 r c zs else if least < 1 ∨ 1000000 < least ∨ width < 0 ∨ 65536 < width then 1 else 0
def HideRet (r c : Int) (zs : List Int) (least width : Int) (hid : List Bool) (er : Int) : Prop :=
  (hideErr r c zs least width ≠ 0 ∧ hid = [] ∧ er = hideErr r c zs least width) ∨ (hideErr r c zs least width = 0 ∧ TblOk r c zs ∧ HideRun r c zs width (smallL zs least) hid er)
theorem NextRet.lt {c : Int} {i : Nat} {hid : List Bool} {x : Int} (h : NextRet c i hid x) (hx : 0 ≤ x) : ∃ k : Nat, x = k ∧ k < hid.length ∧ hid.getD k false = false := by
  rcases h with ⟨rfl, _⟩ | ⟨j, k, rfl, _, hk, hf, _⟩
  · omega
  · exact ⟨k, rfl, hk, hf.1⟩

set_option maxHeartbeats 400000 in
theorem supHideO (r c least width : Int) (A : Option Addr) (zs : List Int) (cap : Nat) (w0 : World) (hz : IntsAt w0 A zs) (hl : zs.length ≤ maxLen) :
    Calls Try.prog 15 #[.agg #[I r, I c, .slice A zs.length cap], I least, I width] w0
      fun e w' => ∃ (A' : Option Addr) (hid : List Bool) (er : Int) (Lo : List Blk), e = .returned (.tuple #[.slice A' hid.length hid.length, I er]) ∧ HideRet r c zs least width hid er ∧ OwnS A' hid.length hid.length (hid.map Bo) 4 1 Lo ∧ SH w0 [] w' Lo := by
  have H := SH.refl w0
  refine Calls.ofWP Try.func15 rfl Try.results15 Try.ntmps15 rfl ?_
  refine WP.seq ?_
  refine WP.region ?_
  refine OPS.box rfl rfl rfl rfl (cA rfl) H ?_
  clear H; intro g3 w H
  refine OPS.val rfl rfl rfl (Ev.asS rfl) ?_
  refine OPS.val rfl rfl rfl (Ev.asI rfl) ?_
  refine OPS.nil ?_
  refine WP.seq ?_
  refine WP.region ?_
  refine OPS.val rfl rfl rfl ((by first | exact Ev.loadO 0 H rfl (agg_run rfl) (size_run rfl) (by first | assumption | rfl) rfl | exact Ev.loadO 1 H rfl (agg_run rfl) (size_run rfl) (by first | assumption | rfl) rfl | exact Ev.loadO 2 H rfl (agg_run rfl) (size_run rfl) (by first | assumption | rfl) rfl | exact Ev.loadO 3 H rfl (agg_run rfl) (size_run rfl) (by first | assumption | rfl) rfl | exact Ev.loadO 4 H rfl (agg_run rfl) (size_run rfl) (by first | assumption | rfl) rfl | exact Ev.loadO 5 H rfl (agg_run rfl) (size_run rfl) (by first | assumption | rfl) rfl | exact Ev.loadO 6 H rfl (agg_run rfl) (size_run rfl) (by first | assumption | rfl) rfl | fail)) ?_
  refine OPS.call (d := some 18) rfl rfl rfl (EvC.func (fun_run rfl)) (supCheck r c A zs cap w (hz.sh H) hl) ?_
  rintro _ w ⟨rfl, hb⟩
  refine ⟨_, rfl, ?_⟩
  replace H := H.toBelow hb; clear hb
  refine OPS.val rfl rfl rfl (Ev.mvT rfl) ?_
  refine OPS.val rfl rfl rfl (Ev.extract rfl rfl) ?_
  refine OPS.val rfl rfl rfl (Ev.extract rfl rfl) ?_
  refine OPS.val rfl rfl rfl (Ev.asI rfl) ?_
  refine OPS.val rfl rfl rfl (Ev.asI rfl) ?_
  refine OPS.nil ?_
  refine WP.seq ?_
  refine WP.block ?_
  refine WP.seq ?_
  refine WP.region ?_
  refine OPS.val rfl rfl rfl (Ev.mvI rfl) ?_
  refine OPS.val rfl rfl rfl (Ev.neq rfl rfl) ?_
  refine OPS.val rfl rfl rfl (Ev.asB rfl) ?_
  refine OPS.nil ?_
  refine WP.cond rfl (fun hc2 => ?_) (fun hc2 => ?_)
  · refine WP.seq ?_
    refine WP.region ?_
    refine OPS.val rfl rfl rfl (Ev.mvI rfl) ?_
    refine OPS.val rfl rfl rfl (Ev.asS rfl) ?_
    refine OPS.val rfl rfl rfl (Ev.asI rfl) ?_
    refine OPS.nil ?_
    refine WP.ret ⟨_, rfl, ?_⟩
    have h : sup1 r c zs ≠ 0 := by simpa using hc2
    exact ⟨none, [], _, [], rfl, .inl ⟨by rw [hideErr, if_pos h]; exact h, rfl, by rw [hideErr, if_pos h]⟩, OwnS.nil, H.drop (List.nil_sublist _)⟩
  have h1 : sup1 r c zs = 0 := by simpa using hc2
  refine WP.seq ?_
  refine WP.region ?_
  refine OPS.val rfl rfl rfl (Ev.mvI rfl) ?_
  refine OPS.val rfl rfl rfl (Ev.neq rfl rfl) ?_
  refine OPS.val rfl rfl rfl (Ev.asB rfl) ?_
  refine OPS.nil ?_
  refine WP.cond rfl (fun hc4 => ?_) (fun hc4 => ?_)
  · refine WP.seq ?_
    refine WP.region ?_
    refine OPS.val rfl rfl rfl (Ev.mvI rfl) ?_
    refine OPS.val rfl rfl rfl (Ev.asS rfl) ?_
    refine OPS.val rfl rfl rfl (Ev.asI rfl) ?_
    refine OPS.nil ?_
    refine WP.ret ⟨_, rfl, ?_⟩
    have h : sup2 r c zs ≠ 0 := by simpa using hc4
    have he : hideErr r c zs least width = sup2 r c zs := by rw [hideErr, if_neg (by simp [h1]), if_pos h]
    exact ⟨none, [], _, [], rfl, .inl ⟨by rw [he]; exact h, rfl, he.symm⟩, OwnS.nil, H.drop (List.nil_sublist _)⟩
  have h2 : sup2 r c zs = 0 := by simpa using hc4
  have hT := tblOk_of h1 h2
  have hlen := hT.len
  have hbd := mul_bd hT.rng
  refine WP.seq ?_
  refine WP.region ?_
  refine OPS.val rfl rfl rfl (Ev.mvI rfl) ?_
  refine OPS.val rfl rfl rfl (Ev.lss rfl rfl) ?_
  refine OPS.val rfl rfl rfl (Ev.mvB rfl) ?_
  refine OPS.gval rfl rfl rfl rfl rfl (fun hg => Ev.mvI (by first | rfl | exact gvE hg rfl)) ?_
  refine OPS.gval rfl rfl rfl rfl rfl (fun hg => Ev.gtr (by first | rfl | exact gvE hg rfl) (by first | rfl | exact gvE hg rfl)) ?_
  refine OPS.val rfl rfl rfl ((by first | exact Ev.pickOr rfl rfl rfl | exact Ev.pickAnd rfl rfl rfl)) ?_
  refine OPS.val rfl rfl rfl (Ev.mvB rfl) ?_
  refine OPS.gval rfl rfl rfl rfl rfl (fun hg => Ev.mvI (by first | rfl | exact gvE hg rfl)) ?_
  refine OPS.gval rfl rfl rfl rfl rfl (fun hg => Ev.lss (by first | rfl | exact gvE hg rfl) (by first | rfl | exact gvE hg rfl)) ?_
  refine OPS.val rfl rfl rfl ((by first | exact Ev.pickOr rfl rfl rfl | exact Ev.pickAnd rfl rfl rfl)) ?_
  refine OPS.val rfl rfl rfl (Ev.mvB rfl) ?_
  refine OPS.gval rfl rfl rfl rfl rfl (fun hg => Ev.mvI (by first | rfl | exact gvE hg rfl)) ?_
  refine OPS.gval rfl rfl rfl rfl rfl (fun hg => Ev.gtr (by first | rfl | exact gvE hg rfl) (by first | rfl | exact gvE hg rfl)) ?_
  refine OPS.val rfl rfl rfl ((by first | exact Ev.pickOr rfl rfl rfl | exact Ev.pickAnd rfl rfl rfl)) ?_
  refine OPS.val rfl rfl rfl (Ev.asB rfl) ?_
  refine OPS.nil ?_
  refine WP.cond rfl (fun hc6 => ?_) (fun hc6 => ?_)
  · refine WP.seq ?_
    refine WP.region ?_
    refine OPS.val rfl rfl rfl (Ev.asS rfl) ?_
    refine OPS.val rfl rfl rfl (Ev.asI rfl) ?_
    refine OPS.nil ?_
    refine WP.ret ⟨_, rfl, ?_⟩
    have h : least < 1 ∨ 1000000 < least ∨ width < 0 ∨ 65536 < width := by
      simp [gv] at hc6; omega
    have he : hideErr r c zs least width = 1 := by rw [hideErr, if_neg (by simp [h1]), if_neg (by simp [h2]), if_pos h]
    exact ⟨none, [], 1, [], rfl, .inl ⟨by rw [he]; decide, rfl, he.symm⟩, OwnS.nil, H.drop (List.nil_sublist _)⟩
  have h : ¬ (least < 1 ∨ 1000000 < least ∨ width < 0 ∨ 65536 < width) := by
    simp [gv] at hc6; omega
  have he : hideErr r c zs least width = 0 := by rw [hideErr, if_neg (by simp [h1]), if_neg (by simp [h2]), if_neg h]
  refine WP.skip ?_
  refine WP.seq ?_
  refine WP.region ?_
  refine OPS.val rfl rfl rfl (Ev.fieldAddr (fld_run rfl) rfl) ?_
  refine OPS.val rfl rfl rfl (Ev.load1 (agg_run rfl) rfl (by first | exact H.ldL 0 rfl _ rfl | exact H.ldL 1 rfl _ rfl | exact H.ldL 2 rfl _ rfl | exact H.ldL 3 rfl _ rfl | exact H.ldL 4 rfl _ rfl | exact H.ldL 5 rfl _ rfl | exact H.ldL 6 rfl _ rfl | exact H.ldL 7 rfl _ rfl | exact H.ld0 (by assumption) | assumption | exact H.ldS (by assumption) (by assumption))) ?_
  refine OPS.val rfl rfl rfl (Ev.len (el_run rfl) rfl) ?_
  refine OPS.makeSlice rfl rfl rfl rfl (sl_run rfl) rfl rfl rfl (by omega) (by omega) H ?_
  clear H; intro g47 w H
  refine OPS.val rfl rfl rfl (Ev.asS rfl) ?_
  refine OPS.nil ?_
  refine WP.seq ?_
  refine WP.seq ?_
  refine WP.region ?_
  refine OPS.val rfl rfl rfl (Ev.fieldAddr (fld_run rfl) rfl) ?_
  refine OPS.val rfl rfl rfl (Ev.load1 (agg_run rfl) rfl (by first | exact H.ldL 0 rfl _ rfl | exact H.ldL 1 rfl _ rfl | exact H.ldL 2 rfl _ rfl | exact H.ldL 3 rfl _ rfl | exact H.ldL 4 rfl _ rfl | exact H.ldL 5 rfl _ rfl | exact H.ldL 6 rfl _ rfl | exact H.ldL 7 rfl _ rfl | exact H.ld0 (by assumption) | assumption | exact H.ldS (by assumption) (by assumption))) ?_
  refine OPS.val rfl rfl rfl (Ev.len (el_run rfl) rfl) ?_
  refine OPS.val rfl rfl rfl (Ev.mvI rfl) ?_
  refine OPS.nil ?_
  refine WP.block ?_
  refine WP.loop [11, 12, 51, 52, 53, 54, 55, 56, 57, 58, 59, 60, 61, 62, 63, 64, 65, 66] (fun k e w' => ∃ j : Nat, j + k = zs.length ∧ e 51 = I j ∧ SH w0 [] w' [⟨g47, 4, (fillL (smallL zs least) false j).map Bo⟩, ⟨g3, 24, [I r, I c, .slice A zs.length cap]⟩]) (zs.length) (⟨0, by omega, rfl, by rw [fillL_zero, show (smallL zs least).length = zs.length by simp [smallL], ← mkL_ones]; exact H⟩) ?_
  clear H
  rintro k u w ⟨j, hk, h51, H⟩
  refine WP.know (t := 51) h51 ?_
  refine WP.seq ?_
  refine WP.region ?_
  refine OPS.val rfl rfl rfl (Ev.lss rfl rfl) ?_
  refine OPS.nil ?_
  refine WP.seq ?_
  refine WP.cond rfl (fun hc10 => ?_) (fun hc10 => ?_)
  · have hlt : j < zs.length := by simp at hc10; omega
    obtain ⟨b, o, rfl, hc⟩ := hz j hlt
    replace hc := H.ld0 hc
    refine WP.skip ?_
    refine WP.seq ?_
    refine WP.block ?_
    refine WP.seq ?_
    refine WP.region ?_
    refine OPS.val rfl rfl rfl (Ev.mvI rfl) ?_
    refine OPS.val rfl rfl rfl ((by first | exact Ev.indexAddr1 (el_run rfl) (size_run rfl) rfl rfl rfl (by omega) | exact Ev.indexAddr (el_run rfl) (size_run rfl) rfl rfl rfl (by omega))) ?_
    refine OPS.val rfl rfl rfl (Ev.load1 (agg_run rfl) rfl (by first | exact H.ldL 0 rfl _ rfl | exact H.ldL 1 rfl _ rfl | exact H.ldL 2 rfl _ rfl | exact H.ldL 3 rfl _ rfl | exact H.ldL 4 rfl _ rfl | exact H.ldL 5 rfl _ rfl | exact H.ldL 6 rfl _ rfl | exact H.ldL 7 rfl _ rfl | exact H.ld0 (by assumption) | assumption | exact H.ldS (by assumption) (by assumption))) ?_
    refine OPS.val rfl rfl rfl (Ev.asI rfl) ?_
    refine OPS.val rfl rfl rfl (Ev.asI rfl) ?_
    refine OPS.nil ?_
    refine WP.region ?_
    refine OPS.val rfl rfl rfl (Ev.mvS rfl) ?_
    refine OPS.val rfl rfl rfl (Ev.mvI rfl) ?_
    refine OPS.val rfl rfl rfl (Ev.mvI rfl) ?_
    refine OPS.val rfl rfl rfl (Ev.leq rfl rfl) ?_
    refine OPS.val rfl rfl rfl (Ev.mvB rfl) ?_
    refine OPS.gval rfl rfl rfl rfl rfl (fun hg => Ev.mvI (by first | rfl | exact gvE hg rfl)) ?_
    refine OPS.gval rfl rfl rfl rfl rfl (fun hg => Ev.mvI (by first | rfl | exact gvE hg rfl)) ?_
    refine OPS.gval rfl rfl rfl rfl rfl (fun hg => Ev.lss (by first | rfl | exact gvE hg rfl) (by first | rfl | exact gvE hg rfl)) ?_
    refine OPS.val rfl rfl rfl ((by first | exact Ev.pickOr rfl rfl rfl | exact Ev.pickAnd rfl rfl rfl)) ?_
    refine OPS.val rfl rfl rfl ((by first | exact Ev.indexAddr1 (el_run rfl) (size_run rfl) rfl rfl rfl (by omega) | exact Ev.indexAddr (el_run rfl) (size_run rfl) rfl rfl rfl (by omega))) ?_
    first | refine OPS.store 0 _ rfl rfl rfl (size_run rfl) rfl (cB rfl) rfl rfl H rfl (by simp [fillL, smallL]; omega) ?_ | refine OPS.store 1 _ rfl rfl rfl (size_run rfl) rfl (cB rfl) rfl rfl H rfl (by simp [fillL, smallL]; omega) ?_ | refine OPS.store 2 _ rfl rfl rfl (size_run rfl) rfl (cB rfl) rfl rfl H rfl (by simp [fillL, smallL]; omega) ?_ | refine OPS.store 3 _ rfl rfl rfl (size_run rfl) rfl (cB rfl) rfl rfl H rfl (by simp [fillL, smallL]; omega) ?_ | refine OPS.store 4 _ rfl rfl rfl (size_run rfl) rfl (cB rfl) rfl rfl H rfl (by simp [fillL, smallL]; omega) ?_ | refine OPS.store 5 _ rfl rfl rfl (size_run rfl) rfl (cB rfl) rfl rfl H rfl (by simp [fillL, smallL]; omega) ?_ | refine OPS.store 6 _ rfl rfl rfl (size_run rfl) rfl (cB rfl) rfl rfl H rfl (by simp [fillL, smallL]; omega) ?_ | refine OPS.store 7 _ rfl rfl rfl (size_run rfl) rfl (cB rfl) rfl rfl H rfl (by simp [fillL, smallL]; omega) ?_ | refine OPS.store 8 _ rfl rfl rfl (size_run rfl) rfl (cB rfl) rfl rfl H rfl (by simp [fillL, smallL]; omega) ?_
    clear H; intro w H; simp only [List.set_cons_zero, List.set_cons_succ, putL, Nat.zero_add] at H
    refine OPS.nil ?_
    refine WP.region ?_
    refine OPS.val rfl rfl rfl (Ev.add rfl rfl (by unfold fits; omega)) ?_
    refine OPS.val rfl rfl rfl (Ev.mvI rfl) ?_
    refine OPS.nil ?_
    refine ⟨(by repeat (first | exact Agree.refl _ _ | exact Agree.mix _ _ _ | refine Agree.upd rfl ?_ | refine Agree.mix2 rfl ?_)), k - 1, by omega, j + 1, by omega, rfl, ?_⟩
    have hj2 : j < (smallL zs least).length := by simpa [smallL] using hlt
    rw [← fillL_set _ _ _ hj2, ← putL_ones, show (smallL zs least)[j] = (decide (1 ≤ zs[j]) && decide (zs[j] < least)) by simp [smallL]]
    exact H
  obtain rfl : j = zs.length := by simp at hc10; omega
  have hsl : (smallL zs least).length = zs.length := by simp [smallL]
  rw [show fillL (smallL zs least) false zs.length = smallL zs least by rw [← hsl]; exact fillL_all _ _] at H
  generalize hsm : smallL zs least = sm at H hsl
  refine WP.exit ?_
  refine XB.hit ?_
  refine WP.seq ?_
  refine WP.region ?_
  refine OPS.val rfl rfl rfl (Ev.mvS rfl) ?_
  refine OPS.val rfl rfl rfl (Ev.len (el_run rfl) rfl) ?_
  refine OPS.makeSlice rfl rfl rfl rfl (sl_run rfl) rfl rfl rfl (by omega) (by omega) H ?_
  clear H; intro g69 w H
  refine OPS.val rfl rfl rfl (Ev.asS rfl) ?_
  refine OPS.nil ?_
  refine WP.seq ?_
  refine WP.region ?_
  refine OPS.val rfl rfl rfl (Ev.mvS rfl) ?_
  refine OPS.val rfl rfl rfl (Ev.mvS rfl) ?_
  refine OPS.copy (n := zs.length) (vs := sm.map Bo) 0 0 rfl rfl rfl rfl (el_run rfl) (size_run rfl) rfl rfl (by simp [hsl]) (cellsAt_own H 1 rfl _ 0 fun q hq => by simp) (by simp [List.all_eq_true, Value.oneCell']) H rfl (by simp [mkL_one]) ?_
  clear H; intro w H
  rw [show putL (mkL zs.length [Value.bool false]) 0 (sm.map Bo) = sm.map Bo by
    have := putL_whole (sm.map Bo) (mkL zs.length [Value.bool false]) [] (by simp [mkL_one, hsl])
    simpa using this] at H
  refine OPS.nil ?_
  refine WP.block ?_
  refine WP.loop [6, 7, 14, 15, 73, 74, 75, 76, 77, 78, 79, 80, 81, 82, 83, 84, 85, 86, 87, 88] (fun k e w' => ∃ hd : List Bool, hd.length = zs.length ∧ openN hd = k ∧ (∀ out er, HideRun r c zs width hd out er → HideRun r c zs width sm out er) ∧ SH w0 [] w' [⟨g69, 4, hd.map Bo⟩, ⟨g47, 4, sm.map Bo⟩, ⟨g3, 24, [I r, I c, .slice A zs.length cap]⟩]) (openN sm) (⟨sm, hsl, rfl, fun _ _ h => h, H⟩) ?_
  clear H
  rintro k u w ⟨hd, hdl, hk, hrun, H⟩
  have hbo : BoolsAt w (some ⟨g69, 0, none⟩) hd := onesOwn H 0 rfl
  refine WP.block ?_
  refine WP.seq ?_
  refine WP.region ?_
  refine OPS.val rfl rfl rfl ((by first | exact Ev.loadO 0 H rfl (agg_run rfl) (size_run rfl) (by first | assumption | rfl) rfl | exact Ev.loadO 1 H rfl (agg_run rfl) (size_run rfl) (by first | assumption | rfl) rfl | exact Ev.loadO 2 H rfl (agg_run rfl) (size_run rfl) (by first | assumption | rfl) rfl | exact Ev.loadO 3 H rfl (agg_run rfl) (size_run rfl) (by first | assumption | rfl) rfl | exact Ev.loadO 4 H rfl (agg_run rfl) (size_run rfl) (by first | assumption | rfl) rfl | exact Ev.loadO 5 H rfl (agg_run rfl) (size_run rfl) (by first | assumption | rfl) rfl | exact Ev.loadO 6 H rfl (agg_run rfl) (size_run rfl) (by first | assumption | rfl) rfl | fail)) ?_
  refine OPS.val rfl rfl rfl (Ev.mvS rfl) ?_
  refine OPS.val rfl rfl rfl (Ev.mvI rfl) ?_
  have hU := supUnsafe r c width A (some ⟨g69, 0, none⟩) zs hd cap zs.length w hT hdl (hz.sh H) hbo
  rw [hdl] at hU
  refine OPS.call (d := some 76) rfl rfl rfl (EvC.func (fun_run rfl)) (hU) ?_
  rintro _ w ⟨x, rfl, hx, Hc⟩
  refine ⟨_, rfl, ?_⟩
  clear hU
  replace H := H.toBelow Hc
  clear Hc
  refine OPS.val rfl rfl rfl (Ev.asI rfl) ?_
  refine OPS.nil ?_
  refine WP.seq ?_
  refine WP.seq ?_
  refine WP.region ?_
  refine OPS.val rfl rfl rfl (Ev.mvI rfl) ?_
  refine OPS.val rfl rfl rfl (Ev.lss rfl rfl) ?_
  refine OPS.nil ?_
  refine WP.cond rfl (fun hc17 => ?_) (fun hc17 => ?_)
  · refine WP.seq ?_
    refine WP.region ?_
    refine OPS.val rfl rfl rfl (Ev.mvS rfl) ?_
    refine OPS.val rfl rfl rfl (Ev.asS rfl) ?_
    refine OPS.val rfl rfl rfl (Ev.asI rfl) ?_
    refine OPS.nil ?_
    refine WP.ret ⟨_, rfl, ?_⟩
    have hx0 : x = -1 := by
      have : x < 0 := by simpa using hc17
      rcases hx.neg with h | h
      · exact h
      · omega
    subst hx0
    refine ⟨some ⟨g69, 0, none⟩, hd, 0, [⟨g69, 4, hd.map Bo⟩], by rw [hdl]; rfl, .inr ⟨he, hT, hsm ▸ hrun _ _ (.done hx)⟩, ⟨by simp, .inr ⟨g69, [], rfl, by simp, Nat.le_refl _, by unfold maxLen; omega, by simp⟩⟩, H.reidx [0] (by decide) rfl⟩
  obtain ⟨i, rfl, hi, hx'⟩ : ∃ i : Nat, x = i ∧ i < hd.length ∧ UnsafeRet r c zs hd width i := by
    have : ¬ x < 0 := by simpa using hc17
    rcases hx with ⟨rfl, _⟩ | ⟨i, rfl, hi, h3⟩
    · omega
    · exact ⟨i, rfl, hi, .inr ⟨i, rfl, hi, h3⟩⟩
  clear hx
  refine WP.skip ?_
  refine WP.seq ?_
  refine WP.region ?_
  refine OPS.val rfl rfl rfl ((by first | exact Ev.loadO 0 H rfl (agg_run rfl) (size_run rfl) (by first | assumption | rfl) rfl | exact Ev.loadO 1 H rfl (agg_run rfl) (size_run rfl) (by first | assumption | rfl) rfl | exact Ev.loadO 2 H rfl (agg_run rfl) (size_run rfl) (by first | assumption | rfl) rfl | exact Ev.loadO 3 H rfl (agg_run rfl) (size_run rfl) (by first | assumption | rfl) rfl | exact Ev.loadO 4 H rfl (agg_run rfl) (size_run rfl) (by first | assumption | rfl) rfl | exact Ev.loadO 5 H rfl (agg_run rfl) (size_run rfl) (by first | assumption | rfl) rfl | exact Ev.loadO 6 H rfl (agg_run rfl) (size_run rfl) (by first | assumption | rfl) rfl | fail)) ?_
  refine OPS.val rfl rfl rfl (Ev.mvS rfl) ?_
  refine OPS.val rfl rfl rfl (Ev.mvI rfl) ?_
  have hU := supNext r c i A (some ⟨g69, 0, none⟩) zs hd cap zs.length w hT hdl (by omega) (onesOwn H 0 rfl)
  rw [hdl] at hU
  refine OPS.call (d := some 83) rfl rfl rfl (EvC.func (fun_run rfl)) (hU) ?_
  rintro _ w ⟨y, rfl, hy, Hc⟩
  refine ⟨_, rfl, ?_⟩
  clear hU
  replace H := H.toBelow Hc
  clear Hc
  refine OPS.val rfl rfl rfl (Ev.asI rfl) ?_
  refine OPS.nil ?_
  refine WP.seq ?_
  refine WP.seq ?_
  refine WP.region ?_
  refine OPS.val rfl rfl rfl (Ev.mvI rfl) ?_
  refine OPS.val rfl rfl rfl (Ev.lss rfl rfl) ?_
  refine OPS.nil ?_
  refine WP.cond rfl (fun hc20 => ?_) (fun hc20 => ?_)
  · refine WP.seq ?_
    refine WP.region ?_
    refine OPS.val rfl rfl rfl (Ev.asS rfl) ?_
    refine OPS.val rfl rfl rfl (Ev.asI rfl) ?_
    refine OPS.nil ?_
    refine WP.ret ⟨_, rfl, ?_⟩
    have hy0 : y = -1 := by
      have : y < 0 := by simpa using hc20
      rcases hy with ⟨h, _⟩ | ⟨_, k, h, _⟩
      · exact h
      · omega
    subst hy0
    refine ⟨none, [], 10, [], rfl, .inr ⟨he, hT, hsm ▸ hrun _ _ (.empty i hi hx' hy)⟩, OwnS.nil, H.drop (List.nil_sublist _)⟩
  obtain ⟨q, rfl, hq, hqf⟩ := hy.lt (by simpa using hc20)
  have hq2 : q < zs.length := by omega
  refine WP.skip ?_
  refine WP.region ?_
  refine OPS.val rfl rfl rfl (Ev.mvS rfl) ?_
  refine OPS.val rfl rfl rfl (Ev.mvI rfl) ?_
  refine OPS.val rfl rfl rfl ((by first | exact Ev.indexAddr1 (el_run rfl) (size_run rfl) rfl rfl rfl (by omega) | exact Ev.indexAddr (el_run rfl) (size_run rfl) rfl rfl rfl (by omega))) ?_
  first | refine OPS.store 0 _ rfl rfl rfl (size_run rfl) rfl (cB rfl) rfl rfl H rfl (by simp; omega) ?_ | refine OPS.store 1 _ rfl rfl rfl (size_run rfl) rfl (cB rfl) rfl rfl H rfl (by simp; omega) ?_ | refine OPS.store 2 _ rfl rfl rfl (size_run rfl) rfl (cB rfl) rfl rfl H rfl (by simp; omega) ?_ | refine OPS.store 3 _ rfl rfl rfl (size_run rfl) rfl (cB rfl) rfl rfl H rfl (by simp; omega) ?_ | refine OPS.store 4 _ rfl rfl rfl (size_run rfl) rfl (cB rfl) rfl rfl H rfl (by simp; omega) ?_ | refine OPS.store 5 _ rfl rfl rfl (size_run rfl) rfl (cB rfl) rfl rfl H rfl (by simp; omega) ?_ | refine OPS.store 6 _ rfl rfl rfl (size_run rfl) rfl (cB rfl) rfl rfl H rfl (by simp; omega) ?_ | refine OPS.store 7 _ rfl rfl rfl (size_run rfl) rfl (cB rfl) rfl rfl H rfl (by simp; omega) ?_ | refine OPS.store 8 _ rfl rfl rfl (size_run rfl) rfl (cB rfl) rfl rfl H rfl (by simp; omega) ?_
  clear H; intro w H; simp only [List.set_cons_zero, List.set_cons_succ, putL, Nat.zero_add] at H
  refine OPS.nil ?_
  refine ⟨(by repeat (first | exact Agree.refl _ _ | exact Agree.mix _ _ _ | refine Agree.upd rfl ?_ | refine Agree.mix2 rfl ?_)), openN (hd.set q true), by rw [← hk]; exact openN_set hd q hq hqf, hd.set q true, by simpa using hdl, rfl, fun out er h => hrun _ _ (.step i q hi hx' hy h), ?_⟩
  rw [← putL_ones]
  exact H
theorem supHide (r c least width : Int) (A : Option Addr) (zs : List Int) (cap : Nat) (w0 : World) (hz : IntsAt w0 A zs) (hl : zs.length ≤ maxLen) :
    Calls Try.prog 15 #[.agg #[I r, I c, .slice A zs.length cap], I least, I width] w0
      fun e w' => ∃ (A' : Option Addr) (hid : List Bool) (er : Int), e = .returned (.tuple #[.slice A' hid.length hid.length, I er]) ∧ HideRet r c zs least width hid er ∧ BoolsAt w' A' hid ∧ Below w0.heap.size w0 w' :=
  (supHideO r c least width A zs cap w0 hz hl).mono fun e w' ⟨A', hid, er, Lo, he, hR, hO, H⟩ => ⟨A', hid, er, he, hR, (hO.ones (R := []) H).1, (H.drop (List.nil_sublist _)).below⟩
end Go.Proofs.Ytmkgfgnpgoegcaa
