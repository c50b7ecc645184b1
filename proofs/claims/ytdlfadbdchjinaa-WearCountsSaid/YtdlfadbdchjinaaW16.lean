/-
  Walks: the kinds with the greatest wear.
-/
import Derived.Test.YtdlfadbdchjinaaW15
set_option linter.all false
namespace Go.Proofs.Ytdlfadbdchjinaa
open Go Go.W Go.RowKit

/-- the greatest of the first numbers, at least 0 -/
def topTo (v : Nat → Int) : Nat → Int
  | 0 => 0
  | j + 1 => if topTo v j < v j then v j else topTo v j
theorem topTo_nn {v : Nat → Int} : ∀ j, 0 ≤ topTo v j
  | 0 => Int.le_refl _
  | j + 1 => by have := topTo_nn (v := v) j; rw [topTo]; split <;> omega
theorem topTo_ge {v : Nat → Int} : ∀ {j i : Nat}, i < j → v i ≤ topTo v j
  | j + 1, i, h => by
    rw [topTo]
    by_cases hi : i = j
    · subst hi; split <;> omega
    · have := topTo_ge (v := v) (show i < j by omega); split <;> omega
def idxTo (v : Nat → Int) (top : Int) (j : Nat) : List Int := List.map (fun i : Nat => (i : Int)) ((List.range j).filter fun i => decide (v i = top))
theorem idxTo_succ (v : Nat → Int) (top : Int) (j : Nat) : idxTo v top (j + 1) = idxTo v top j ++ if v j = top then [(j : Int)] else [] := by
  unfold idxTo
  rw [List.range_succ, List.filter_append, List.map_append]
  by_cases h : v j = top <;> simp [h]
theorem idxTo_none {v : Nat → Int} {top : Int} : ∀ {j : Nat}, (∀ i, i < j → v i ≠ top) → idxTo v top j = []
  | 0, _ => rfl
  | j + 1, h => by rw [idxTo_succ, idxTo_none fun i hi => h i (by omega), if_neg (h j (by omega))]; rfl
theorem idxTo_len (v : Nat → Int) (top : Int) (j : Nat) : (idxTo v top j).length ≤ j := by unfold idxTo; rw [List.length_map]; exact Nat.le_trans (List.length_filter_le _ _) (by simp)
/-- the wear of the kinds -/
def vsF (hs rs : List Int) (n s : Int) (i : Nat) : Int := wornV (hs.getD i 0) (rs.getD i 0) n s
def mostErr (hs rs : List Int) (R : List Ride) (bike f t : Int) : Int := if wearErr hs rs ≠ 0 then wearErr hs rs else askErr R bike f t
def mostL (hs rs : List Int) (R : List Ride) (bike f t : Int) : List Int := if mostErr hs rs R bike f t = 0 then idxTo (vsF hs rs (cntR bike f t R) (secR bike f t R)) (topTo (vsF hs rs (cntR bike f t R) (secR bike f t R)) hs.length) hs.length else []
theorem wornV_nn {h r n s : Int} (hh : 0 ≤ h) (hr : 0 ≤ r) (hn : 0 ≤ n) (hs : 0 ≤ s) : 0 ≤ wornV h r n s := by
  unfold wornV
  have := Int.mul_nonneg hr hn
  have := Int.ediv_nonneg (Int.mul_nonneg hh hs) (show (0 : Int) ≤ 3600 by omega)
  omega
theorem wornV_bd {h r n s : Int} (hh : 0 ≤ h ∧ h ≤ 1000000) (hr : 0 ≤ r ∧ r ≤ 1000000) (hn : 0 ≤ n ∧ n ≤ 200000) (hs : 0 ≤ s ∧ s ≤ 600000000000000) : 0 ≤ wornV h r n s ∧ wornV h r n s ≤ 170000000000000000000 := by
  refine ⟨wornV_nn hh.1 hr.1 hn.1 hs.1, ?_⟩
  unfold wornV
  have h1 := (mulB hr hn).2
  have h2 := (mulB hh hs).2
  generalize r * n = a at *
  generalize h * s = b at *
  omega
set_option maxHeartbeats 1000000 in
theorem wearMost (HA RA A : Option Addr) (hs rs : List Int) (R : List Ride) (hc rc cap : Nat) (bike f t : Int) (w0 : World) (hW : WearAt w0 HA RA hs rs) (hR : RidesAt w0 A R) :
    Calls Try.prog 18 #[.agg #[.slice HA hs.length hc, .slice RA rs.length rc], .slice A R.length cap, I bike, .agg #[I f, I t]] w0 fun e w' => ∃ (S : Option Addr) (c : Nat) (L : List Blk), e = .returned (.tuple #[.slice S (mostL hs rs R bike f t).length c, I (mostErr hs rs R bike f t)]) ∧ Reads L (fun w => IntsAt w S (mostL hs rs R bike f t)) ∧ SH w0 [] w' L := by
  have H := SH.refl w0
  refine Calls.ofWP Try.func18 rfl Try.results18 Try.ntmps18 rfl ?_
  refine WP.seq ?_
  refine WP.region ?_
  refine OPS.box rfl rfl rfl rfl (cA rfl) H ?_
  clear H; intro g4 w H
  refine OPS.box rfl rfl rfl rfl (cA rfl) H ?_
  clear H; intro g7 w H
  refine OPS.val rfl rfl rfl (Ev.asS rfl) ?_
  refine OPS.val rfl rfl rfl (Ev.asI rfl) ?_
  refine OPS.nil ?_
  refine WP.seq ?_
  refine WP.seq ?_
  refine WP.region ?_
  refine OPS.val rfl rfl rfl ((by first | exact Ev.loadO 0 H rfl (agg_run rfl) (size_run rfl) (by first | assumption | rfl) rfl | exact Ev.loadO 1 H rfl (agg_run rfl) (size_run rfl) (by first | assumption | rfl) rfl | exact Ev.loadO 2 H rfl (agg_run rfl) (size_run rfl) (by first | assumption | rfl) rfl | exact Ev.loadO 3 H rfl (agg_run rfl) (size_run rfl) (by first | assumption | rfl) rfl | exact Ev.loadO 4 H rfl (agg_run rfl) (size_run rfl) (by first | assumption | rfl) rfl | exact Ev.loadO 5 H rfl (agg_run rfl) (size_run rfl) (by first | assumption | rfl) rfl | exact Ev.loadO 6 H rfl (agg_run rfl) (size_run rfl) (by first | assumption | rfl) rfl | exact Ev.loadN [_, _] (agg_run rfl) (size_run rfl) rfl ⟨H.ldL 0 rfl _ rfl, H.ldL 0 rfl _ rfl, trivial⟩ | exact Ev.loadN [_, _] (agg_run rfl) (size_run rfl) rfl ⟨H.ldL 1 rfl _ rfl, H.ldL 1 rfl _ rfl, trivial⟩ | exact Ev.loadN [_, _] (agg_run rfl) (size_run rfl) rfl ⟨H.ldL 2 rfl _ rfl, H.ldL 2 rfl _ rfl, trivial⟩ | exact Ev.loadN [_, _] (agg_run rfl) (size_run rfl) rfl ⟨H.ldL 3 rfl _ rfl, H.ldL 3 rfl _ rfl, trivial⟩ | exact Ev.loadN [_, _] (agg_run rfl) (size_run rfl) rfl ⟨H.ldL 4 rfl _ rfl, H.ldL 4 rfl _ rfl, trivial⟩ | (change Ev _ _ _ _ (Op.load 24 (Operand.tmp 4)) _; fail))) ?_
  refine OPS.call (d := some 18) rfl rfl rfl (EvC.func (fun_run rfl)) (wearCheck HA RA hs rs hc rc w (hW.sh H)) ?_
  rintro _ w ⟨rfl, hb⟩
  refine ⟨_, rfl, ?_⟩
  replace H := H.toBelow hb; clear hb
  refine OPS.val rfl rfl rfl (Ev.asI rfl) ?_
  refine OPS.nil ?_
  refine WP.seq ?_
  refine WP.region ?_
  refine OPS.val rfl rfl rfl (Ev.mvI rfl) ?_
  refine OPS.val rfl rfl rfl (Ev.neq rfl rfl) ?_
  refine OPS.nil ?_
  refine WP.cond rfl (fun hc2 => ?_) (fun hc2 => ?_)
  · refine WP.seq ?_
    refine WP.region ?_
    refine OPS.val rfl rfl rfl (Ev.mvI rfl) ?_
    refine OPS.val rfl rfl rfl (Ev.asS rfl) ?_
    refine OPS.val rfl rfl rfl (Ev.asI rfl) ?_
    refine OPS.nil ?_
    refine WP.ret ⟨_, rfl, ?_⟩
    have h1 : wearErr hs rs ≠ 0 := by simpa using hc2
    have he : mostErr hs rs R bike f t = wearErr hs rs := by rw [mostErr, if_pos h1]
    have hl : mostL hs rs R bike f t = [] := by rw [mostL, he, if_neg h1]
    rw [hl, he]
    exact ⟨none, 0, [], rfl, fun _ _ _ _ => OnesAt.nil, H.drop (List.nil_sublist _)⟩
  have h1 : ¬ wearErr hs rs ≠ 0 := by simpa using hc2
  obtain ⟨k1, k2, k3, k4, k5⟩ := wear_ok (Classical.not_not.1 h1)
  have he : mostErr hs rs R bike f t = askErr R bike f t := by rw [mostErr, if_neg h1]
  refine WP.skip ?_
  refine WP.seq ?_
  refine WP.seq ?_
  refine WP.region ?_
  refine OPS.val rfl rfl rfl (Ev.mvS rfl) ?_
  refine OPS.val rfl rfl rfl (Ev.mvI rfl) ?_
  refine OPS.val rfl rfl rfl ((by first | exact Ev.loadO 0 H rfl (agg_run rfl) (size_run rfl) (by first | assumption | rfl) rfl | exact Ev.loadO 1 H rfl (agg_run rfl) (size_run rfl) (by first | assumption | rfl) rfl | exact Ev.loadO 2 H rfl (agg_run rfl) (size_run rfl) (by first | assumption | rfl) rfl | exact Ev.loadO 3 H rfl (agg_run rfl) (size_run rfl) (by first | assumption | rfl) rfl | exact Ev.loadO 4 H rfl (agg_run rfl) (size_run rfl) (by first | assumption | rfl) rfl | exact Ev.loadO 5 H rfl (agg_run rfl) (size_run rfl) (by first | assumption | rfl) rfl | exact Ev.loadO 6 H rfl (agg_run rfl) (size_run rfl) (by first | assumption | rfl) rfl | exact Ev.loadN [_, _] (agg_run rfl) (size_run rfl) rfl ⟨H.ldL 0 rfl _ rfl, H.ldL 0 rfl _ rfl, trivial⟩ | exact Ev.loadN [_, _] (agg_run rfl) (size_run rfl) rfl ⟨H.ldL 1 rfl _ rfl, H.ldL 1 rfl _ rfl, trivial⟩ | exact Ev.loadN [_, _] (agg_run rfl) (size_run rfl) rfl ⟨H.ldL 2 rfl _ rfl, H.ldL 2 rfl _ rfl, trivial⟩ | exact Ev.loadN [_, _] (agg_run rfl) (size_run rfl) rfl ⟨H.ldL 3 rfl _ rfl, H.ldL 3 rfl _ rfl, trivial⟩ | exact Ev.loadN [_, _] (agg_run rfl) (size_run rfl) rfl ⟨H.ldL 4 rfl _ rfl, H.ldL 4 rfl _ rfl, trivial⟩ | (change Ev _ _ _ _ (Op.load 29 (Operand.tmp 7)) _; fail))) ?_
  refine OPS.call (d := some 25) rfl rfl rfl (EvC.func (fun_run rfl)) (wearAsk A R cap bike f t w (hR.sh H)) ?_
  rintro _ w ⟨rfl, hb⟩
  refine ⟨_, rfl, ?_⟩
  replace H := H.toBelow hb; clear hb
  refine OPS.val rfl rfl rfl (Ev.asI rfl) ?_
  refine OPS.nil ?_
  refine WP.seq ?_
  refine WP.region ?_
  refine OPS.val rfl rfl rfl (Ev.mvI rfl) ?_
  refine OPS.val rfl rfl rfl (Ev.neq rfl rfl) ?_
  refine OPS.nil ?_
  refine WP.cond rfl (fun hc5 => ?_) (fun hc5 => ?_)
  · refine WP.seq ?_
    refine WP.region ?_
    refine OPS.val rfl rfl rfl (Ev.mvI rfl) ?_
    refine OPS.val rfl rfl rfl (Ev.asS rfl) ?_
    refine OPS.val rfl rfl rfl (Ev.asI rfl) ?_
    refine OPS.nil ?_
    refine WP.ret ⟨_, rfl, ?_⟩
    have h3 : askErr R bike f t ≠ 0 := by simpa using hc5
    have hl : mostL hs rs R bike f t = [] := by rw [mostL, he, if_neg h3]
    rw [hl, he]
    exact ⟨none, 0, [], rfl, fun _ _ _ _ => OnesAt.nil, H.drop (List.nil_sublist _)⟩
  have h3 : askErr R bike f t = 0 := by simpa using hc5
  obtain ⟨_, a2, a3⟩ := ask_ok h3
  have hsb := sec_any (bike := bike) (f := f) (t := t) a3 a2
  have hl : mostL hs rs R bike f t = idxTo (vsF hs rs (cntR bike f t R) (secR bike f t R)) (topTo (vsF hs rs (cntR bike f t R) (secR bike f t R)) hs.length) hs.length := by rw [mostL, he, if_pos h3]
  obtain ⟨v, hv⟩ : ∃ v, v = vsF hs rs (cntR bike f t R) (secR bike f t R) := ⟨_, rfl⟩
  have hvn : ∀ i (hi : i < hs.length), v i = wornV hs[i] (rs[i]'(by omega)) (cntR bike f t R) (secR bike f t R) ∧ 0 ≤ v i := fun i hi => by
    have e : v i = wornV hs[i] (rs[i]'(by omega)) (cntR bike f t R) (secR bike f t R) := by rw [hv, vsF, getDk hi, getDk (show i < rs.length by omega)]
    exact ⟨e, by rw [e]; exact wornV_nn (k4 i hi).1 (k5 i (by omega)).1 hsb.2.1 hsb.1.1⟩
  rw [← hv] at hl
  rw [hl, he, h3]
  refine WP.skip ?_
  refine WP.seq ?_
  refine WP.region ?_
  refine OPS.val rfl rfl rfl (Ev.mvS rfl) ?_
  refine OPS.val rfl rfl rfl (Ev.mvI rfl) ?_
  refine OPS.val rfl rfl rfl ((by first | exact Ev.loadO 0 H rfl (agg_run rfl) (size_run rfl) (by first | assumption | rfl) rfl | exact Ev.loadO 1 H rfl (agg_run rfl) (size_run rfl) (by first | assumption | rfl) rfl | exact Ev.loadO 2 H rfl (agg_run rfl) (size_run rfl) (by first | assumption | rfl) rfl | exact Ev.loadO 3 H rfl (agg_run rfl) (size_run rfl) (by first | assumption | rfl) rfl | exact Ev.loadO 4 H rfl (agg_run rfl) (size_run rfl) (by first | assumption | rfl) rfl | exact Ev.loadO 5 H rfl (agg_run rfl) (size_run rfl) (by first | assumption | rfl) rfl | exact Ev.loadO 6 H rfl (agg_run rfl) (size_run rfl) (by first | assumption | rfl) rfl | exact Ev.loadN [_, _] (agg_run rfl) (size_run rfl) rfl ⟨H.ldL 0 rfl _ rfl, H.ldL 0 rfl _ rfl, trivial⟩ | exact Ev.loadN [_, _] (agg_run rfl) (size_run rfl) rfl ⟨H.ldL 1 rfl _ rfl, H.ldL 1 rfl _ rfl, trivial⟩ | exact Ev.loadN [_, _] (agg_run rfl) (size_run rfl) rfl ⟨H.ldL 2 rfl _ rfl, H.ldL 2 rfl _ rfl, trivial⟩ | exact Ev.loadN [_, _] (agg_run rfl) (size_run rfl) rfl ⟨H.ldL 3 rfl _ rfl, H.ldL 3 rfl _ rfl, trivial⟩ | exact Ev.loadN [_, _] (agg_run rfl) (size_run rfl) rfl ⟨H.ldL 4 rfl _ rfl, H.ldL 4 rfl _ rfl, trivial⟩ | (change Ev _ _ _ _ (Op.load 29 (Operand.tmp 7)) _; fail))) ?_
  refine OPS.call (d := some 32) rfl rfl rfl (EvC.func (fun_run rfl)) (wearUse2 A R cap bike f t w (hR.sh H) a2 a3) ?_
  rintro _ w ⟨rfl, hb⟩
  refine ⟨_, rfl, ?_⟩
  replace H := H.toBelow hb; clear hb
  refine OPS.alloc rfl rfl rfl rfl (zero_run rfl) rfl H ?_
  clear H; intro g12 w H
  first | refine OPS.store 0 _ rfl rfl rfl (size_run rfl) rfl (cA rfl) rfl rfl H rfl (by simp) ?_ | refine OPS.store 1 _ rfl rfl rfl (size_run rfl) rfl (cA rfl) rfl rfl H rfl (by simp) ?_ | refine OPS.store 2 _ rfl rfl rfl (size_run rfl) rfl (cA rfl) rfl rfl H rfl (by simp) ?_ | refine OPS.store 3 _ rfl rfl rfl (size_run rfl) rfl (cA rfl) rfl rfl H rfl (by simp) ?_ | refine OPS.store 4 _ rfl rfl rfl (size_run rfl) rfl (cA rfl) rfl rfl H rfl (by simp) ?_ | refine OPS.store 5 _ rfl rfl rfl (size_run rfl) rfl (cA rfl) rfl rfl H rfl (by simp) ?_ | refine OPS.store 6 _ rfl rfl rfl (size_run rfl) rfl (cA rfl) rfl rfl H rfl (by simp) ?_ | refine OPS.store 7 _ rfl rfl rfl (size_run rfl) rfl (cA rfl) rfl rfl H rfl (by simp) ?_ | refine OPS.store 8 _ rfl rfl rfl (size_run rfl) rfl (cA rfl) rfl rfl H rfl (by simp) ?_
  clear H; intro w H; try simp only [List.set_cons_zero, List.set_cons_succ, putL, Nat.zero_add] at H
  refine OPS.nil ?_
  refine WP.seq ?_
  refine WP.region ?_
  refine OPS.val rfl rfl rfl (Ev.asS rfl) ?_
  refine OPS.nil ?_
  refine WP.seq ?_
  refine WP.region ?_
  refine OPS.val rfl rfl rfl (Ev.asI rfl) ?_
  refine OPS.nil ?_
  refine WP.seq ?_
  refine WP.seq ?_
  refine WP.region ?_
  refine OPS.val rfl rfl rfl (Ev.fieldAddr (fld_run rfl) rfl) ?_
  refine OPS.val rfl rfl rfl (Ev.load1 (agg_run rfl) rfl (by first | exact H.ldL 0 rfl _ rfl | exact H.ldL 1 rfl _ rfl | exact H.ldL 2 rfl _ rfl | exact H.ldL 3 rfl _ rfl | exact H.ldL 4 rfl _ rfl | exact H.ldL 5 rfl _ rfl | exact H.ldL 6 rfl _ rfl | exact H.ldL 7 rfl _ rfl | exact H.ld0 (by assumption) | assumption | exact H.ldS (by assumption) (by assumption))) ?_
  refine OPS.val rfl rfl rfl (Ev.len (el_run rfl) rfl) ?_
  refine OPS.val rfl rfl rfl (Ev.mvI rfl) ?_
  refine OPS.nil ?_
  refine WP.block ?_
  refine WP.loop [13, 14, 15, 16, 36, 37, 38, 39, 40, 41, 42, 43, 44, 45, 46, 47, 48, 49, 50, 51, 52, 53, 54] (fun k e w' => ∃ (j : Nat) (S : Option Addr) (c : Nat) (Lo : List Blk), j + k = hs.length ∧ e 36 = I j ∧ e 14 = I (if j = 0 then -1 else topTo v j) ∧ e 13 = .slice S (idxTo v (topTo v j) j).length c ∧ OwnS S c (idxTo v (topTo v j) j).length ((idxTo v (topTo v j) j).map I) 3 1 Lo ∧ SH w0 [] w' ([⟨g12, 51, [I (cntR bike f t R), I (secR bike f t R)]⟩, ⟨g7, 29, [I f, I t]⟩, ⟨g4, 24, [.slice HA hs.length hc, .slice RA rs.length rc]⟩] ++ Lo)) (hs.length) (⟨0, none, 0, [], by omega, rfl, rfl, rfl, OwnS.nil, H⟩) ?_
  clear H
  rintro k u w ⟨j, S, c, Lo, hk, h36, h14, h13, hO, H⟩
  refine WP.know (t := 36) h36 (WP.know (t := 14) h14 (WP.know (t := 13) h13 ?_))
  refine WP.seq ?_
  refine WP.region ?_
  refine OPS.val rfl rfl rfl (Ev.lss rfl rfl) ?_
  refine OPS.nil ?_
  refine WP.seq ?_
  refine WP.cond rfl (fun hc11 => ?_) (fun hc11 => ?_)
  · have hlt : j < hs.length := by simpa using hc11
    obtain ⟨e1, e2⟩ := hvn j hlt
    have hil := idxTo_len v (topTo v j) j
    have htt : topTo v (j + 1) = if topTo v j < v j then v j else topTo v j := rfl
    have hnn := topTo_nn (v := v) j
    simp only [List.cons_append, List.nil_append] at H
    refine WP.skip ?_
    refine WP.seq ?_
    refine WP.block ?_
    refine WP.seq ?_
    refine WP.region ?_
    refine OPS.val rfl rfl rfl (Ev.mvI rfl) ?_
    refine OPS.val rfl rfl rfl (Ev.asI rfl) ?_
    refine OPS.nil ?_
    refine WP.seq ?_
    refine WP.region ?_
    refine OPS.val rfl rfl rfl ((by first | exact Ev.loadO 0 H rfl (agg_run rfl) (size_run rfl) (by first | assumption | rfl) rfl | exact Ev.loadO 1 H rfl (agg_run rfl) (size_run rfl) (by first | assumption | rfl) rfl | exact Ev.loadO 2 H rfl (agg_run rfl) (size_run rfl) (by first | assumption | rfl) rfl | exact Ev.loadO 3 H rfl (agg_run rfl) (size_run rfl) (by first | assumption | rfl) rfl | exact Ev.loadO 4 H rfl (agg_run rfl) (size_run rfl) (by first | assumption | rfl) rfl | exact Ev.loadO 5 H rfl (agg_run rfl) (size_run rfl) (by first | assumption | rfl) rfl | exact Ev.loadO 6 H rfl (agg_run rfl) (size_run rfl) (by first | assumption | rfl) rfl | exact Ev.loadN [_, _] (agg_run rfl) (size_run rfl) rfl ⟨H.ldL 0 rfl _ rfl, H.ldL 0 rfl _ rfl, trivial⟩ | exact Ev.loadN [_, _] (agg_run rfl) (size_run rfl) rfl ⟨H.ldL 1 rfl _ rfl, H.ldL 1 rfl _ rfl, trivial⟩ | exact Ev.loadN [_, _] (agg_run rfl) (size_run rfl) rfl ⟨H.ldL 2 rfl _ rfl, H.ldL 2 rfl _ rfl, trivial⟩ | exact Ev.loadN [_, _] (agg_run rfl) (size_run rfl) rfl ⟨H.ldL 3 rfl _ rfl, H.ldL 3 rfl _ rfl, trivial⟩ | exact Ev.loadN [_, _] (agg_run rfl) (size_run rfl) rfl ⟨H.ldL 4 rfl _ rfl, H.ldL 4 rfl _ rfl, trivial⟩ | (change Ev _ _ _ _ (Op.load 24 (Operand.tmp 4)) _; fail))) ?_
    refine OPS.val rfl rfl rfl (Ev.mvI rfl) ?_
    refine OPS.val rfl rfl rfl ((by first | exact Ev.loadO 0 H rfl (agg_run rfl) (size_run rfl) (by first | assumption | rfl) rfl | exact Ev.loadO 1 H rfl (agg_run rfl) (size_run rfl) (by first | assumption | rfl) rfl | exact Ev.loadO 2 H rfl (agg_run rfl) (size_run rfl) (by first | assumption | rfl) rfl | exact Ev.loadO 3 H rfl (agg_run rfl) (size_run rfl) (by first | assumption | rfl) rfl | exact Ev.loadO 4 H rfl (agg_run rfl) (size_run rfl) (by first | assumption | rfl) rfl | exact Ev.loadO 5 H rfl (agg_run rfl) (size_run rfl) (by first | assumption | rfl) rfl | exact Ev.loadO 6 H rfl (agg_run rfl) (size_run rfl) (by first | assumption | rfl) rfl | exact Ev.loadN [_, _] (agg_run rfl) (size_run rfl) rfl ⟨H.ldL 0 rfl _ rfl, H.ldL 0 rfl _ rfl, trivial⟩ | exact Ev.loadN [_, _] (agg_run rfl) (size_run rfl) rfl ⟨H.ldL 1 rfl _ rfl, H.ldL 1 rfl _ rfl, trivial⟩ | exact Ev.loadN [_, _] (agg_run rfl) (size_run rfl) rfl ⟨H.ldL 2 rfl _ rfl, H.ldL 2 rfl _ rfl, trivial⟩ | exact Ev.loadN [_, _] (agg_run rfl) (size_run rfl) rfl ⟨H.ldL 3 rfl _ rfl, H.ldL 3 rfl _ rfl, trivial⟩ | exact Ev.loadN [_, _] (agg_run rfl) (size_run rfl) rfl ⟨H.ldL 4 rfl _ rfl, H.ldL 4 rfl _ rfl, trivial⟩ | (change Ev _ _ _ _ (Op.load 51 (Operand.tmp 12)) _; fail))) ?_
    refine OPS.call (d := some 42) rfl rfl rfl (EvC.func (fun_run rfl)) (wearWorn HA RA hs rs hc rc j (cntR bike f t R) (secR bike f t R) w (hW.sh H) hlt (by omega) (k4 j hlt) (k5 j (by omega)) hsb.2 hsb.1) ?_
    rintro _ w ⟨rfl, hb⟩
    refine ⟨_, rfl, ?_⟩
    replace H := H.toBelow hb; clear hb
    rw [← e1]
    refine OPS.val rfl rfl rfl (Ev.asI rfl) ?_
    refine OPS.nil ?_
    refine WP.seq ?_
    refine WP.seq ?_
    refine WP.region ?_
    refine OPS.val rfl rfl rfl (Ev.mvI rfl) ?_
    refine OPS.val rfl rfl rfl (Ev.mvI rfl) ?_
    refine OPS.val rfl rfl rfl (Ev.gtr rfl rfl) ?_
    refine OPS.nil ?_
    refine WP.cut [13, 14, 46] (fun e w' => ∃ (S : Option Addr) (c : Nat) (Lo : List Blk), e 14 = I (topTo v (j + 1)) ∧ e 13 = .slice S (idxTo v (topTo v (j + 1)) j).length c ∧ OwnS S c (idxTo v (topTo v (j + 1)) j).length ((idxTo v (topTo v (j + 1)) j).map I) 3 1 Lo ∧ SH w0 [] w' ([⟨g12, 51, [I (cntR bike f t R), I (secR bike f t R)]⟩, ⟨g7, 29, [I f, I t]⟩, ⟨g4, 24, [.slice HA hs.length hc, .slice RA rs.length rc]⟩] ++ Lo)) ?_ ?_
    · refine WP.cond rfl (fun hc14 => ?_) (fun hc14 => ?_)
      · have hlv : (if j = 0 then -1 else topTo v j) < v j := by simpa using hc14
        have ht1 : topTo v (j + 1) = v j := by
          rw [htt]
          by_cases hj : j = 0
          · subst hj
            show (if 0 < v 0 then v 0 else 0) = v 0
            by_cases h0 : 0 < v 0
            · rw [if_pos h0]
            · rw [if_neg h0]; omega
          · rw [if_neg hj] at hlv; rw [if_pos hlv]
        have hi0 : idxTo v (v j) j = [] := idxTo_none fun i hi => by
          have := topTo_ge (v := v) hi
          rw [if_neg (by omega : ¬ j = 0)] at hlv
          omega
        refine WP.region ?_
        refine OPS.val rfl rfl rfl (Ev.mvI rfl) ?_
        refine OPS.val rfl rfl rfl (Ev.asI rfl) ?_
        refine OPS.val rfl rfl rfl (Ev.asS rfl) ?_
        refine OPS.nil ?_
        first
          | exact ⟨(by repeat (first | exact Agree.refl _ _ | exact Agree.mix _ _ _ | refine Agree.upd rfl ?_ | refine Agree.mix2 rfl ?_)), none, 0, [], (by rw [ht1]; rfl), (by rw [ht1, hi0]; rfl), (by rw [ht1, hi0]; exact OwnS.nil), H.drop (List.sublist_append_left [_, _, _] _)⟩
          | exact ⟨(by repeat (first | exact Agree.refl _ _ | exact Agree.mix _ _ _ | refine Agree.upd rfl ?_ | refine Agree.mix2 rfl ?_)), S, c, Lo, (by rw [← h0e]; rfl), (by rw [ht1]; rfl), (by rw [ht1]; exact hO), H⟩
      have hlv : ¬ (if j = 0 then -1 else topTo v j) < v j := by simpa using hc14
      have hj0 : j ≠ 0 := fun hj => by rw [if_pos hj] at hlv; omega
      rw [if_neg hj0] at hlv
      have ht1 : topTo v (j + 1) = topTo v j := by rw [htt, if_neg hlv]
      have h0e : (if j = 0 then -1 else topTo v j) = topTo v (j + 1) := by rw [if_neg hj0, ht1]
      refine WP.skip ?_
      first
        | exact ⟨(by repeat (first | exact Agree.refl _ _ | exact Agree.mix _ _ _ | refine Agree.upd rfl ?_ | refine Agree.mix2 rfl ?_)), none, 0, [], (by rw [ht1]; rfl), (by rw [ht1, hi0]; rfl), (by rw [ht1, hi0]; exact OwnS.nil), H.drop (List.sublist_append_left [_, _, _] _)⟩
        | exact ⟨(by repeat (first | exact Agree.refl _ _ | exact Agree.mix _ _ _ | refine Agree.upd rfl ?_ | refine Agree.mix2 rfl ?_)), S, c, Lo, (by rw [← h0e]; rfl), (by rw [ht1]; rfl), (by rw [ht1]; exact hO), H⟩
    clear H hO
    rintro u2 w ⟨S, c, Lo, h14, h13, hO, H⟩
    refine WP.know (t := 14) h14 (WP.know (t := 13) h13 ?_)
    have hil2 := idxTo_len v (topTo v (j + 1)) j
    simp only [List.cons_append, List.nil_append] at H
    refine WP.seq ?_
    refine WP.region ?_
    refine OPS.val rfl rfl rfl (Ev.mvI rfl) ?_
    refine OPS.val rfl rfl rfl (Ev.mvI rfl) ?_
    refine OPS.val rfl rfl rfl (Ev.eql rfl rfl) ?_
    refine OPS.nil ?_
    refine WP.cond rfl (fun hc16 => ?_) (fun hc16 => ?_)
    · have hve : v j = topTo v (j + 1) := by simpa using hc16
      have hxs : idxTo v (topTo v (j + 1)) (j + 1) = idxTo v (topTo v (j + 1)) j ++ [(j : Int)] := by rw [idxTo_succ, if_pos hve]
      refine WP.region ?_
      refine OPS.val rfl rfl rfl (Ev.mvS rfl) ?_
      refine OPS.val rfl rfl rfl (Ev.mvI rfl) ?_
      refine OPS.buildSlice rfl rfl rfl rfl (bsl_22_1_0 rfl) H ?_
      clear H; intro g52 w H
      refine OPS.append (m := 1) (news := [I j]) (R := [⟨g52, 3, [I j]⟩] ++ [⟨g12, 51, [I (cntR bike f t R), I (secR bike f t R)]⟩, ⟨g7, 29, [I f, I t]⟩, ⟨g4, 24, [.slice HA hs.length hc, .slice RA rs.length rc]⟩]) rfl rfl rfl rfl rfl (sl_run rfl) rfl rfl hO rfl (src_own H 0 rfl) rfl (by omega) (by unfold maxLen; omega) H (List.Perm.refl _) ?_
      clear H hO; intro S c Lo w hO H
      refine OPS.val rfl rfl rfl (Ev.asS rfl) ?_
      refine OPS.nil ?_
      refine WP.region ?_
      refine OPS.val rfl rfl rfl (Ev.add rfl rfl (by unfold fits; omega)) ?_
      refine OPS.val rfl rfl rfl (Ev.mvI rfl) ?_
      refine OPS.nil ?_
      first
        | exact ⟨(by repeat (first | exact Agree.refl _ _ | exact Agree.mix _ _ _ | refine Agree.upd rfl ?_ | refine Agree.mix2 rfl ?_)), k - 1, by omega, j + 1, S, c, Lo, by omega, rfl, (by rw [if_neg (by omega : ¬ j + 1 = 0)]; rfl), (by rw [hxs, List.length_append]; rfl), (by rw [hxs, List.length_append, List.map_append]; exact hO), H.drop (List.sublist_cons_self _ _)⟩
        | exact ⟨(by repeat (first | exact Agree.refl _ _ | exact Agree.mix _ _ _ | refine Agree.upd rfl ?_ | refine Agree.mix2 rfl ?_)), k - 1, by omega, j + 1, S, c, Lo, by omega, rfl, (by rw [if_neg (by omega : ¬ j + 1 = 0)]; rfl), (by rw [hxs]; rfl), (by rw [hxs]; exact hO), H⟩
    have hve : ¬ v j = topTo v (j + 1) := by simpa using hc16
    have hxs : idxTo v (topTo v (j + 1)) (j + 1) = idxTo v (topTo v (j + 1)) j := by rw [idxTo_succ, if_neg hve, List.append_nil]
    refine WP.skip ?_
    refine WP.region ?_
    refine OPS.val rfl rfl rfl (Ev.add rfl rfl (by unfold fits; omega)) ?_
    refine OPS.val rfl rfl rfl (Ev.mvI rfl) ?_
    refine OPS.nil ?_
    first
      | exact ⟨(by repeat (first | exact Agree.refl _ _ | exact Agree.mix _ _ _ | refine Agree.upd rfl ?_ | refine Agree.mix2 rfl ?_)), k - 1, by omega, j + 1, S, c, Lo, by omega, rfl, (by rw [if_neg (by omega : ¬ j + 1 = 0)]; rfl), (by rw [hxs, List.length_append]; rfl), (by rw [hxs, List.length_append, List.map_append]; exact hO), H.drop (List.sublist_cons_self _ _)⟩
      | exact ⟨(by repeat (first | exact Agree.refl _ _ | exact Agree.mix _ _ _ | refine Agree.upd rfl ?_ | refine Agree.mix2 rfl ?_)), k - 1, by omega, j + 1, S, c, Lo, by omega, rfl, (by rw [if_neg (by omega : ¬ j + 1 = 0)]; rfl), (by rw [hxs]; rfl), (by rw [hxs]; exact hO), H⟩
  refine WP.exit ?_
  refine XB.hit ?_
  refine WP.seq ?_
  refine WP.region ?_
  refine OPS.val rfl rfl rfl (Ev.mvS rfl) ?_
  refine OPS.val rfl rfl rfl (Ev.asS rfl) ?_
  refine OPS.val rfl rfl rfl (Ev.asI rfl) ?_
  refine OPS.nil ?_
  refine WP.ret ⟨_, rfl, ?_⟩
  have hj : j = hs.length := by simp at hc11; omega
  subst hj
  exact ⟨S, c, Lo, rfl, fun w0 X w H => (hO.ones (R := []) H).1, H.drop (List.sublist_append_right [_, _, _] _)⟩
end Go.Proofs.Ytdlfadbdchjinaa
