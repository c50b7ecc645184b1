/-
  Walk: when the wear reaches a limit.
-/
import Derived.Test.YtdlfadbdchjinaaW18
set_option linter.all false
namespace Go.Proofs.Ytdlfadbdchjinaa
open Go Go.W Go.RowKit

def timesL (bike f : Int) (l : List Leg) : List Int := (l.filter fun x => decide (x.bike = bike) && decide (f ≤ x.fl)).map fun x => x.fl + 1
def timesR (bike f : Int) (R : List Ride) : List Int := R.flatMap fun r => timesL bike f r.L.l
def atsL (bike f : Int) (R : List Ride) : List Int := f :: timesR bike f R
theorem timesL_take {bike f : Int} {l : List Leg} {j : Nat} (h : j < l.length) : timesL bike f (l.take (j + 1)) = timesL bike f (l.take j) ++ if (decide (l[j].bike = bike) && decide (f ≤ l[j].fl)) = true then [l[j].fl + 1] else [] := by
  unfold timesL
  rw [List.take_succ_eq_append_getElem h, List.filter_append, List.map_append]
  by_cases hc : (decide (l[j].bike = bike) && decide (f ≤ l[j].fl)) = true
  · rw [if_pos hc]; congr 1; simp only [List.filter_cons, hc, if_true, List.filter_nil, List.map_cons, List.map_nil]
  · rw [if_neg hc]; congr 1; simp only [List.filter_cons, hc, if_false, List.filter_nil, List.map_nil]; rfl
theorem timesL_len (bike f : Int) (l : List Leg) : (timesL bike f l).length ≤ l.length := by unfold timesL; rw [List.length_map]; exact List.length_filter_le _ _
theorem timesR_take {bike f : Int} {R : List Ride} {i : Nat} (h : i < R.length) : timesR bike f (R.take (i + 1)) = timesR bike f (R.take i) ++ timesL bike f R[i].L.l := by unfold timesR; rw [List.take_succ_eq_append_getElem h, List.flatMap_append]; simp
theorem timesR_len {bike f : Int} {R : List Ride} (h : ∀ r ∈ R, r.L.l.length ≤ 512) : ∀ i, i ≤ R.length → (timesR bike f (R.take i)).length ≤ 512 * i := fun i => by
  induction i with
  | zero => intro _; simp [timesR]
  | succ i ih =>
    intro hi
    have := ih (by omega)
    have := h R[i] (List.getElem_mem (by omega))
    have := timesL_len bike f R[i].L.l
    rw [timesR_take (show i < R.length by omega), List.length_append]; omega
def wAt (hs rs : List Int) (R : List Ride) (bike kind f t : Int) : Int := wornV (hs.getD kind.toNat 0) (rs.getD kind.toNat 0) (cntR bike f t R) (secR bike f t R)
def reachO (hs rs : List Int) (R : List Ride) (bike kind f lim : Int) : Option Int := (srt (atsL bike f R)).find? fun t => decide (lim ≤ wAt hs rs R bike kind f t)
def reachErr (hs rs : List Int) (R : List Ride) (bike kind f lim : Int) : Int := if ofErr hs rs R bike kind f 4294944000 ≠ 0 then ofErr hs rs R bike kind f 4294944000 else if lim < 0 ∨ 1125899906842624 < lim then 1 else if (reachO hs rs R bike kind f lim).isSome = true then 0 else 10
def reachVal (hs rs : List Int) (R : List Ride) (bike kind f lim : Int) : Int := if reachErr hs rs R bike kind f lim = 0 then (reachO hs rs R bike kind f lim).getD 0 else 0
theorem of_ok {hs rs : List Int} {R : List Ride} {bike kind f t : Int} (h : ofErr hs rs R bike kind f t = 0) : wearErr hs rs = 0 ∧ (∃ k : Nat, kind = k ∧ k < hs.length) ∧ askErr R bike f t = 0 := by
  unfold ofErr at h
  split at h
  · rename_i h1; exact absurd h h1
  · rename_i h1
    split at h
    · cases h
    · rename_i h2
      obtain ⟨k, rfl⟩ := Int.eq_ofNat_of_zero_le (show 0 ≤ kind by omega)
      exact ⟨Classical.not_not.1 h1, ⟨k, rfl, by omega⟩, h⟩
theorem find_drop {P : Int → Bool} {s : List Int} {j : Nat} (h : j < s.length) : (s.drop j).find? P = if P s[j] = true then some s[j] else (s.drop (j + 1)).find? P := by
  rw [drop_get h]
  by_cases hp : P s[j] = true
  · rw [if_pos hp, List.find?_cons_of_pos hp]
  · rw [if_neg hp, List.find?_cons_of_neg hp]
set_option maxHeartbeats 2000000 in
theorem wearReaches (HA RA A : Option Addr) (hs rs : List Int) (R : List Ride) (hc rc cap : Nat) (bike kind f lim : Int) (w0 : World) (hW : WearAt w0 HA RA hs rs) (hR : RidesAt w0 A R) :
    Calls Try.prog 16 #[.agg #[.slice HA hs.length hc, .slice RA rs.length rc], .slice A R.length cap, I bike, I kind, I f, I lim] w0 fun e w' => e = .returned (.tuple #[I (reachVal hs rs R bike kind f lim), I (reachErr hs rs R bike kind f lim)]) ∧ Below w0.heap.size w0 w' := by
  have H := SH.refl w0
  refine Calls.ofWP Try.func16 rfl Try.results16 Try.ntmps16 rfl ?_
  refine WP.seq ?_
  refine WP.region ?_
  refine OPS.box rfl rfl rfl rfl (cA rfl) H ?_
  clear H; intro g6 w H
  refine OPS.val rfl rfl rfl (Ev.asI rfl) ?_
  refine OPS.val rfl rfl rfl (Ev.asI rfl) ?_
  refine OPS.nil ?_
  refine WP.seq ?_
  refine WP.seq ?_
  refine WP.region ?_
  refine OPS.val rfl rfl rfl ((by first | exact Ev.loadO 0 H rfl (agg_run rfl) (size_run rfl) (by first | assumption | rfl) rfl | exact Ev.loadO 1 H rfl (agg_run rfl) (size_run rfl) (by first | assumption | rfl) rfl | exact Ev.loadO 2 H rfl (agg_run rfl) (size_run rfl) (by first | assumption | rfl) rfl | exact Ev.loadO 3 H rfl (agg_run rfl) (size_run rfl) (by first | assumption | rfl) rfl | exact Ev.loadO 4 H rfl (agg_run rfl) (size_run rfl) (by first | assumption | rfl) rfl | exact Ev.loadO 5 H rfl (agg_run rfl) (size_run rfl) (by first | assumption | rfl) rfl | exact Ev.loadO 6 H rfl (agg_run rfl) (size_run rfl) (by first | assumption | rfl) rfl | exact Ev.loadN [_, _] (agg_run rfl) (size_run rfl) rfl ⟨H.ldL 0 rfl _ rfl, H.ldL 0 rfl _ rfl, trivial⟩ | exact Ev.loadN [_, _] (agg_run rfl) (size_run rfl) rfl ⟨H.ldL 1 rfl _ rfl, H.ldL 1 rfl _ rfl, trivial⟩ | exact Ev.loadN [_, _] (agg_run rfl) (size_run rfl) rfl ⟨H.ldL 2 rfl _ rfl, H.ldL 2 rfl _ rfl, trivial⟩ | exact Ev.loadN [_, _] (agg_run rfl) (size_run rfl) rfl ⟨H.ldL 3 rfl _ rfl, H.ldL 3 rfl _ rfl, trivial⟩ | exact Ev.loadN [_, _] (agg_run rfl) (size_run rfl) rfl ⟨H.ldL 4 rfl _ rfl, H.ldL 4 rfl _ rfl, trivial⟩ | (change Ev _ _ _ _ (Op.load 24 (Operand.tmp 6)) _; fail))) ?_
  refine OPS.val rfl rfl rfl (Ev.mvS rfl) ?_
  refine OPS.val rfl rfl rfl (Ev.mvI rfl) ?_
  refine OPS.val rfl rfl rfl (Ev.mvI rfl) ?_
  refine OPS.val rfl rfl rfl (Ev.mvI rfl) ?_
  refine OPS.val rfl rfl rfl (Ev.build (bld_29_0_1 rfl rfl)) ?_
  refine OPS.call (d := some 30) rfl rfl rfl (EvC.func (fun_run rfl)) (wearOf HA RA A hs rs R hc rc cap bike kind f 4294944000 w (hW.sh H) (hR.sh H)) ?_
  rintro _ w ⟨rfl, hb⟩
  refine ⟨_, rfl, ?_⟩
  replace H := H.toBelow hb; clear hb
  refine OPS.val rfl rfl rfl (Ev.mvT rfl) ?_
  refine OPS.val rfl rfl rfl (Ev.extract rfl rfl) ?_
  refine OPS.val rfl rfl rfl (Ev.extract rfl rfl) ?_
  refine OPS.val rfl rfl rfl (Ev.asI rfl) ?_
  refine OPS.val rfl rfl rfl (Ev.asI rfl) ?_
  refine OPS.nil ?_
  refine WP.seq ?_
  refine WP.region ?_
  refine OPS.val rfl rfl rfl (Ev.mvI rfl) ?_
  refine OPS.val rfl rfl rfl (Ev.neq rfl rfl) ?_
  refine OPS.nil ?_
  refine WP.cond rfl (fun hc2 => ?_) (fun hc2 => ?_)
  · refine WP.seq ?_
    refine WP.region ?_
    refine OPS.val rfl rfl rfl (Ev.mvI rfl) ?_
    refine OPS.val rfl rfl rfl (Ev.asI rfl) ?_
    refine OPS.val rfl rfl rfl (Ev.asI rfl) ?_
    refine OPS.nil ?_
    refine WP.ret ⟨_, rfl, ?_⟩
    have h1 : ofErr hs rs R bike kind f 4294944000 ≠ 0 := by simpa using hc2
    have he : reachErr hs rs R bike kind f lim = ofErr hs rs R bike kind f 4294944000 := by rw [reachErr, if_pos h1]
    exact ⟨by rw [reachVal, he, if_neg h1]; rfl, H.below⟩
  have h1 : ¬ ofErr hs rs R bike kind f 4294944000 ≠ 0 := by simpa using hc2
  obtain ⟨b1, ⟨k, rfl, hkl⟩, b3⟩ := of_ok (Classical.not_not.1 h1)
  obtain ⟨k1, k2, k3, k4, k5⟩ := wear_ok b1
  obtain ⟨_, a2, a3⟩ := ask_ok b3
  refine WP.skip ?_
  refine WP.seq ?_
  refine WP.seq ?_
  refine WP.region ?_
  refine OPS.val rfl rfl rfl (Ev.mvI rfl) ?_
  refine OPS.val rfl rfl rfl (Ev.lss rfl rfl) ?_
  refine OPS.val rfl rfl rfl (Ev.mvB rfl) ?_
  refine OPS.gval rfl rfl rfl rfl rfl (fun hg => Ev.mvI (by first | rfl | exact gvE hg rfl)) ?_
  refine OPS.gval rfl rfl rfl rfl rfl (fun hg => Ev.gtr (by first | rfl | exact gvE hg rfl) (by first | rfl | exact gvE hg rfl)) ?_
  refine OPS.val rfl rfl rfl ((by first | exact Ev.pickOr rfl rfl rfl | exact Ev.pickAnd rfl rfl rfl)) ?_
  refine OPS.nil ?_
  refine WP.cond rfl (fun hc4 => ?_) (fun hc4 => ?_)
  · refine WP.seq ?_
    refine WP.region ?_
    refine OPS.val rfl rfl rfl (Ev.asI rfl) ?_
    refine OPS.val rfl rfl rfl (Ev.asI rfl) ?_
    refine OPS.nil ?_
    refine WP.ret ⟨_, rfl, ?_⟩
    have h2 : lim < 0 ∨ 1125899906842624 < lim := by grind
    have he : reachErr hs rs R bike k f lim = 1 := by rw [reachErr, if_neg h1, if_pos h2]
    exact ⟨by rw [reachVal, he, if_neg (by decide)]; rfl, H.below⟩
  have h2 : ¬ (lim < 0 ∨ 1125899906842624 < lim) := by grind
  have he : reachErr hs rs R bike k f lim = if (reachO hs rs R bike k f lim).isSome = true then 0 else 10 := by rw [reachErr, if_neg h1, if_neg h2]
  have htl := timesR_len (bike := bike) (f := f) fun r hr => (a3 r hr).ll
  have hwk : ∀ t, wAt hs rs R bike k f t = wornV hs[k] (rs[k]'(by omega)) (cntR bike f t R) (secR bike f t R) := fun t => by rw [wAt, Int.toNat_natCast, getDk hkl, getDk (show k < rs.length by omega)]
  refine WP.skip ?_
  refine WP.seq ?_
  refine WP.region ?_
  refine OPS.val rfl rfl rfl (Ev.mvI rfl) ?_
  refine OPS.buildSlice rfl rfl rfl rfl (bsl_22_1_0 rfl) H ?_
  clear H; intro g43 w H
  refine OPS.val rfl rfl rfl (Ev.asS rfl) ?_
  refine OPS.nil ?_
  refine WP.seq ?_
  refine WP.seq ?_
  refine WP.region ?_
  refine OPS.val rfl rfl rfl (Ev.mvS rfl) ?_
  refine OPS.val rfl rfl rfl (Ev.len (el_run rfl) rfl) ?_
  refine OPS.val rfl rfl rfl (Ev.mvI rfl) ?_
  refine OPS.nil ?_
  refine WP.block ?_
  refine WP.loop [16, 18, 20, 46, 47, 48, 49, 50, 51, 52, 53, 54, 55, 56, 57, 58, 59, 60, 61, 62, 63, 64, 65, 66, 67, 68, 69, 70, 71, 72, 73, 74, 75, 76] (fun q e w' => ∃ (i : Nat) (S : Option Addr) (c : Nat) (Lo : List Blk), i + q = R.length ∧ e 46 = I i ∧ e 16 = .slice S ((timesR bike f (R.take i)).length + 1) c ∧ OwnS S c ((timesR bike f (R.take i)).length + 1) ((f :: timesR bike f (R.take i)).map I) 3 1 Lo ∧ SH w0 [] w' ([⟨g6, 24, [.slice HA hs.length hc, .slice RA rs.length rc]⟩] ++ Lo)) (R.length) (⟨0, some ⟨g43, 0, none⟩, 1, [⟨g43, 3, [I f]⟩], by omega, rfl, rfl, ⟨rfl, .inr ⟨g43, [], rfl, rfl, by simp [timesR], by unfold maxLen; omega, rfl⟩⟩, H.reidx [1, 0] (by decide) rfl⟩) ?_
  clear H
  rintro q u w ⟨i, S, c, Lo, hq, h46, h16, hO, H⟩
  refine WP.know (t := 46) h46 (WP.know (t := 16) h16 ?_)
  refine WP.seq ?_
  refine WP.region ?_
  refine OPS.val rfl rfl rfl (Ev.lss rfl rfl) ?_
  refine OPS.nil ?_
  refine WP.seq ?_
  refine WP.cond rfl (fun hc8 => ?_) (fun hc8 => ?_)
  · have hlt : i < R.length := by simpa using hc8
    obtain ⟨b, o, rfl, hcx⟩ := hR.rows i hlt
    have hc' := cellsAt_sh H hcx
    have hra := hR.each R[i] (List.getElem_mem hlt)
    have hok := a3 R[i] (List.getElem_mem hlt)
    have htt := timesR_take (bike := bike) (f := f) hlt
    have hti := htl i (by omega)
    obtain ⟨r, hr⟩ : ∃ r, r = R[i] := ⟨_, rfl⟩
    rw [← hr] at hc' hra hok htt
    clear hr hcx
    obtain ⟨id, rider, sl, sh, el, eh, opn, ⟨LA, lc, ll⟩, ⟨PA, pc, pl⟩, fw, fp, wh, pp⟩ := r
    have hL := hra.legs
    have hll := hok.ll
    have hrng := hok.rng
    simp only at hL hll hrng htt
    obtain ⟨T0, hT0⟩ : ∃ T0, T0 = timesR bike f (R.take i) := ⟨_, rfl⟩
    rw [← hT0] at hO htt hti
    refine WP.skip ?_
    refine WP.seq ?_
    refine WP.block ?_
    refine WP.seq ?_
    refine WP.region ?_
    refine OPS.val rfl rfl rfl ((by first | exact Ev.indexAddr1 (el_run rfl) (size_run rfl) rfl rfl rfl (by omega) | exact Ev.indexAddr (el_run rfl) (size_run rfl) rfl rfl rfl (by omega))) ?_
    refine OPS.val rfl rfl rfl ((by first | exact Ev.loadO 0 H rfl (agg_run rfl) (size_run rfl) (by first | assumption | rfl) rfl | exact Ev.loadO 1 H rfl (agg_run rfl) (size_run rfl) (by first | assumption | rfl) rfl | exact Ev.loadO 2 H rfl (agg_run rfl) (size_run rfl) (by first | assumption | rfl) rfl | exact Ev.loadO 3 H rfl (agg_run rfl) (size_run rfl) (by first | assumption | rfl) rfl | exact Ev.loadO 4 H rfl (agg_run rfl) (size_run rfl) (by first | assumption | rfl) rfl | exact Ev.loadO 5 H rfl (agg_run rfl) (size_run rfl) (by first | assumption | rfl) rfl | exact Ev.loadO 6 H rfl (agg_run rfl) (size_run rfl) (by first | assumption | rfl) rfl | (change Ev _ _ _ _ (Op.load 50 (Operand.tmp 48)) _; exact Ev.loadN (rideCells ⟨id, rider, sl, sh, el, eh, opn, ⟨LA, lc, ll⟩, ⟨PA, pc, pl⟩, fw, fp, wh, pp⟩) (agg_run rfl) (size_run rfl) rfl hc'))) ?_
    refine OPS.alloc rfl rfl rfl rfl (zero_run rfl) rfl H ?_
    clear H; intro g18 w H
    first | refine OPS.store 0 _ rfl rfl rfl (size_run rfl) rfl (cA rfl) rfl rfl H rfl (by simp) ?_ | refine OPS.store 1 _ rfl rfl rfl (size_run rfl) rfl (cA rfl) rfl rfl H rfl (by simp) ?_ | refine OPS.store 2 _ rfl rfl rfl (size_run rfl) rfl (cA rfl) rfl rfl H rfl (by simp) ?_ | refine OPS.store 3 _ rfl rfl rfl (size_run rfl) rfl (cA rfl) rfl rfl H rfl (by simp) ?_ | refine OPS.store 4 _ rfl rfl rfl (size_run rfl) rfl (cA rfl) rfl rfl H rfl (by simp) ?_ | refine OPS.store 5 _ rfl rfl rfl (size_run rfl) rfl (cA rfl) rfl rfl H rfl (by simp) ?_ | refine OPS.store 6 _ rfl rfl rfl (size_run rfl) rfl (cA rfl) rfl rfl H rfl (by simp) ?_ | refine OPS.store 7 _ rfl rfl rfl (size_run rfl) rfl (cA rfl) rfl rfl H rfl (by simp) ?_ | refine OPS.store 8 _ rfl rfl rfl (size_run rfl) rfl (cA rfl) rfl rfl H rfl (by simp) ?_
    clear H; intro w H; try simp only [List.set_cons_zero, List.set_cons_succ, putL, Nat.zero_add] at H
    refine OPS.nil ?_
    refine WP.seq ?_
    dsimp only [rideCells] at H
    simp only [List.cons_append, List.nil_append] at H
    refine WP.region ?_
    refine OPS.val rfl rfl rfl (Ev.fieldAddr (fld_run rfl) rfl) ?_
    refine OPS.val rfl rfl rfl (Ev.load1 (agg_run rfl) rfl (by first | exact H.ldL 0 rfl _ rfl | exact H.ldL 1 rfl _ rfl | exact H.ldL 2 rfl _ rfl | exact H.ldL 3 rfl _ rfl | exact H.ldL 4 rfl _ rfl | exact H.ldL 5 rfl _ rfl | exact H.ldL 6 rfl _ rfl | exact H.ldL 7 rfl _ rfl | exact H.ld0 (by assumption) | assumption | exact H.ldS (by assumption) (by assumption))) ?_
    refine OPS.val rfl rfl rfl (Ev.len (el_run rfl) rfl) ?_
    refine OPS.val rfl rfl rfl (Ev.mvI rfl) ?_
    refine OPS.nil ?_
    refine WP.block ?_
    refine WP.loop [16, 20, 53, 54, 55, 56, 57, 58, 59, 60, 61, 62, 63, 64, 65, 66, 67, 68, 69, 70, 71, 72, 73, 74, 75] (fun q e w' => ∃ (j : Nat) (S : Option Addr) (c : Nat) (Lo : List Blk), j + q = ll.length ∧ e 53 = I j ∧ e 16 = .slice S ((T0 ++ timesL bike f (ll.take j)).length + 1) c ∧ OwnS S c ((T0 ++ timesL bike f (ll.take j)).length + 1) ((f :: (T0 ++ timesL bike f (ll.take j))).map I) 3 1 Lo ∧ SH w0 [] w' ([⟨g18, 50, [I id, I rider, I sl, I sh, I el, I eh, Bo opn, .slice LA ll.length lc, .slice PA pl.length pc, I fw, I fp, I wh, I pp]⟩, ⟨g6, 24, [.slice HA hs.length hc, .slice RA rs.length rc]⟩] ++ Lo)) (ll.length) (⟨0, S, c, Lo, by omega, rfl, by rw [List.take_zero, show timesL bike f [] = [] from rfl, List.append_nil, hT0]; rfl, by rw [List.take_zero, show timesL bike f [] = [] from rfl, List.append_nil]; exact hO, H⟩) ?_
    clear H hO
    rintro q2 u2 w ⟨j, S, c, Lo, hq2, h53, h16, hO, H⟩
    refine WP.know (t := 53) h53 (WP.know (t := 16) h16 ?_)
    refine WP.seq ?_
    refine WP.region ?_
    refine OPS.val rfl rfl rfl (Ev.lss rfl rfl) ?_
    refine OPS.nil ?_
    refine WP.seq ?_
    refine WP.cond rfl (fun hc11 => ?_) (fun hc11 => ?_)
    · have hlt2 : j < ll.length := by simpa using hc11
      obtain ⟨b2, o2, rfl, hcy⟩ := hL j hlt2
      have hc2' := cellsAt_sh H hcy
      have hxr := hrng ll[j] (List.getElem_mem hlt2)
      have htj := timesL_take (bike := bike) (f := f) hlt2
      have hjl := timesL_len bike f (ll.take j)
      have hjl2 : (ll.take j).length ≤ ll.length := List.length_take_le' _ _
      obtain ⟨x, hx⟩ : ∃ x, x = ll[j] := ⟨_, rfl⟩
      rw [← hx] at hc2' hxr htj
      have hT1l : (T0 ++ timesL bike f (ll.take j)).length ≤ 512 * i + 512 := by rw [List.length_append]; omega
      simp only [List.cons_append, List.nil_append] at H
      refine WP.skip ?_
      refine WP.seq ?_
      refine WP.block ?_
      refine WP.seq ?_
      refine WP.region ?_
      refine OPS.val rfl rfl rfl ((by first | exact Ev.indexAddr1 (el_run rfl) (size_run rfl) rfl rfl rfl (by omega) | exact Ev.indexAddr (el_run rfl) (size_run rfl) rfl rfl rfl (by omega))) ?_
      refine OPS.val rfl rfl rfl ((by first | exact Ev.loadO 0 H rfl (agg_run rfl) (size_run rfl) (by first | assumption | rfl) rfl | exact Ev.loadO 1 H rfl (agg_run rfl) (size_run rfl) (by first | assumption | rfl) rfl | exact Ev.loadO 2 H rfl (agg_run rfl) (size_run rfl) (by first | assumption | rfl) rfl | exact Ev.loadO 3 H rfl (agg_run rfl) (size_run rfl) (by first | assumption | rfl) rfl | exact Ev.loadO 4 H rfl (agg_run rfl) (size_run rfl) (by first | assumption | rfl) rfl | exact Ev.loadO 5 H rfl (agg_run rfl) (size_run rfl) (by first | assumption | rfl) rfl | exact Ev.loadO 6 H rfl (agg_run rfl) (size_run rfl) (by first | assumption | rfl) rfl | (change Ev _ _ _ _ (Op.load 54 (Operand.tmp 55)) _; exact Ev.loadN (legCells x) (agg_run rfl) (size_run rfl) rfl hc2'))) ?_
      refine OPS.alloc rfl rfl rfl rfl (zero_run rfl) rfl H ?_
      clear H; intro g20 w H
      first | refine OPS.store 0 _ rfl rfl rfl (size_run rfl) rfl (cA rfl) rfl rfl H rfl (by simp) ?_ | refine OPS.store 1 _ rfl rfl rfl (size_run rfl) rfl (cA rfl) rfl rfl H rfl (by simp) ?_ | refine OPS.store 2 _ rfl rfl rfl (size_run rfl) rfl (cA rfl) rfl rfl H rfl (by simp) ?_ | refine OPS.store 3 _ rfl rfl rfl (size_run rfl) rfl (cA rfl) rfl rfl H rfl (by simp) ?_ | refine OPS.store 4 _ rfl rfl rfl (size_run rfl) rfl (cA rfl) rfl rfl H rfl (by simp) ?_ | refine OPS.store 5 _ rfl rfl rfl (size_run rfl) rfl (cA rfl) rfl rfl H rfl (by simp) ?_ | refine OPS.store 6 _ rfl rfl rfl (size_run rfl) rfl (cA rfl) rfl rfl H rfl (by simp) ?_ | refine OPS.store 7 _ rfl rfl rfl (size_run rfl) rfl (cA rfl) rfl rfl H rfl (by simp) ?_ | refine OPS.store 8 _ rfl rfl rfl (size_run rfl) rfl (cA rfl) rfl rfl H rfl (by simp) ?_
      clear H; intro w H; try simp only [List.set_cons_zero, List.set_cons_succ, putL, Nat.zero_add] at H
      refine OPS.nil ?_
      refine WP.seq ?_
      dsimp only [legCells] at H
      refine WP.region ?_
      refine OPS.val rfl rfl rfl (Ev.fieldAddr (fld_run rfl) rfl) ?_
      refine OPS.val rfl rfl rfl (Ev.load1 (agg_run rfl) rfl (by first | exact H.ldL 0 rfl _ rfl | exact H.ldL 1 rfl _ rfl | exact H.ldL 2 rfl _ rfl | exact H.ldL 3 rfl _ rfl | exact H.ldL 4 rfl _ rfl | exact H.ldL 5 rfl _ rfl | exact H.ldL 6 rfl _ rfl | exact H.ldL 7 rfl _ rfl | exact H.ld0 (by assumption) | assumption | exact H.ldS (by assumption) (by assumption))) ?_
      refine OPS.val rfl rfl rfl (Ev.mvI rfl) ?_
      refine OPS.val rfl rfl rfl (Ev.eql rfl rfl) ?_
      refine OPS.val rfl rfl rfl (Ev.mvB rfl) ?_
      refine OPS.gval rfl rfl rfl rfl rfl (fun hg => Ev.fieldAddr (fld_run rfl) (by first | rfl | exact gvE hg rfl)) ?_
      refine OPS.gval rfl rfl rfl rfl rfl (fun hg => Ev.fieldAddr (fld_run rfl) (by first | rfl | exact gvE hg rfl)) ?_
      refine OPS.gval rfl rfl rfl rfl rfl (fun hg => Ev.load1 (agg_run rfl) (by first | rfl | exact gvE hg rfl) (by first | exact H.ldL 0 rfl _ rfl | exact H.ldL 1 rfl _ rfl | exact H.ldL 2 rfl _ rfl | exact H.ldL 3 rfl _ rfl | exact H.ldL 4 rfl _ rfl | exact H.ldL 5 rfl _ rfl | exact H.ldL 6 rfl _ rfl | exact H.ldL 7 rfl _ rfl | exact H.ld0 (by assumption) | assumption | exact H.ldS (by assumption) (by assumption))) ?_
      refine OPS.gval rfl rfl rfl rfl rfl (fun hg => Ev.mvI (by first | rfl | exact gvE hg rfl)) ?_
      refine OPS.gval rfl rfl rfl rfl rfl (fun hg => Ev.geq (by first | rfl | exact gvE hg rfl) (by first | rfl | exact gvE hg rfl)) ?_
      refine OPS.val rfl rfl rfl ((by first | exact Ev.pickOr rfl rfl rfl | exact Ev.pickAnd rfl rfl rfl)) ?_
      refine OPS.nil ?_
      refine WP.cond rfl (fun hc13 => ?_) (fun hc13 => ?_)
      · have hcd : (decide (x.bike = bike) && decide (f ≤ x.fl)) = true := hc13
        rw [if_pos hcd] at htj
        have hlen : (T0 ++ timesL bike f (ll.take (j + 1))).length + 1 = (T0 ++ timesL bike f (ll.take j)).length + 1 + 1 := by rw [htj]; simp; omega
        have hmap : (f :: (T0 ++ timesL bike f (ll.take (j + 1)))).map I = (f :: (T0 ++ timesL bike f (ll.take j))).map I ++ [I (x.fl + 1)] := by rw [htj]; simp
        refine WP.region ?_
        refine OPS.val rfl rfl rfl (Ev.mvS rfl) ?_
        refine OPS.val rfl rfl rfl (Ev.fieldAddr (fld_run rfl) rfl) ?_
        refine OPS.val rfl rfl rfl (Ev.fieldAddr (fld_run rfl) rfl) ?_
        refine OPS.val rfl rfl rfl (Ev.load1 (agg_run rfl) rfl (by first | exact H.ldL 0 rfl _ rfl | exact H.ldL 1 rfl _ rfl | exact H.ldL 2 rfl _ rfl | exact H.ldL 3 rfl _ rfl | exact H.ldL 4 rfl _ rfl | exact H.ldL 5 rfl _ rfl | exact H.ldL 6 rfl _ rfl | exact H.ldL 7 rfl _ rfl | exact H.ld0 (by assumption) | assumption | exact H.ldS (by assumption) (by assumption))) ?_
        refine OPS.val rfl rfl rfl (Ev.add rfl rfl (by unfold fits; omega)) ?_
        refine OPS.buildSlice rfl rfl rfl rfl (bsl_22_1_0 rfl) H ?_
        clear H; intro g73 w H
        refine OPS.append (m := 1) (news := [I (x.fl + 1)]) (R := [⟨g73, 3, [I (x.fl + 1)]⟩, ⟨g20, 54, [I x.bike, I x.fl, I x.fh, I x.tl, I x.th]⟩, ⟨g18, 50, [I id, I rider, I sl, I sh, I el, I eh, Bo opn, .slice (some ⟨b2, o2, none⟩) ll.length lc, .slice PA pl.length pc, I fw, I fp, I wh, I pp]⟩, ⟨g6, 24, [.slice HA hs.length hc, .slice RA rs.length rc]⟩]) rfl rfl rfl rfl rfl (sl_run rfl) rfl rfl hO rfl (src_own H 0 rfl) rfl (by omega) (by unfold maxLen; omega) H (List.Perm.refl _) ?_
        clear H hO; intro S c Lo w hO H
        refine OPS.val rfl rfl rfl (Ev.asS rfl) ?_
        refine OPS.nil ?_
        refine WP.region ?_
        refine OPS.val rfl rfl rfl (Ev.add rfl rfl (by unfold fits; omega)) ?_
        refine OPS.val rfl rfl rfl (Ev.mvI rfl) ?_
        refine OPS.nil ?_
        first
          | exact ⟨(by repeat (first | exact Agree.refl _ _ | exact Agree.mix _ _ _ | refine Agree.upd rfl ?_ | refine Agree.mix2 rfl ?_)), q2 - 1, by omega, j + 1, S, c, Lo, by omega, rfl, (by rw [hlen]; rfl), (by rw [hlen, hmap]; exact hO), H.drop (List.Sublist.cons _ (List.sublist_cons_self _ _))⟩
          | exact ⟨(by repeat (first | exact Agree.refl _ _ | exact Agree.mix _ _ _ | refine Agree.upd rfl ?_ | refine Agree.mix2 rfl ?_)), q2 - 1, by omega, j + 1, S, c, Lo, by omega, rfl, (by rw [htj]; rfl), (by rw [htj]; exact hO), H.drop (List.sublist_cons_self _ _)⟩
      have hcd : (decide (x.bike = bike) && decide (f ≤ x.fl)) = false := hc13
      rw [if_neg (by rw [hcd]; simp), List.append_nil] at htj
      refine WP.skip ?_
      refine WP.region ?_
      refine OPS.val rfl rfl rfl (Ev.add rfl rfl (by unfold fits; omega)) ?_
      refine OPS.val rfl rfl rfl (Ev.mvI rfl) ?_
      refine OPS.nil ?_
      first
        | exact ⟨(by repeat (first | exact Agree.refl _ _ | exact Agree.mix _ _ _ | refine Agree.upd rfl ?_ | refine Agree.mix2 rfl ?_)), q2 - 1, by omega, j + 1, S, c, Lo, by omega, rfl, (by rw [hlen]; rfl), (by rw [hlen, hmap]; exact hO), H.drop (List.Sublist.cons _ (List.sublist_cons_self _ _))⟩
        | exact ⟨(by repeat (first | exact Agree.refl _ _ | exact Agree.mix _ _ _ | refine Agree.upd rfl ?_ | refine Agree.mix2 rfl ?_)), q2 - 1, by omega, j + 1, S, c, Lo, by omega, rfl, (by rw [htj]; rfl), (by rw [htj]; exact hO), H.drop (List.sublist_cons_self _ _)⟩
    refine WP.exit ?_
    refine XB.hit ?_
    refine WP.region ?_
    refine OPS.val rfl rfl rfl (Ev.add rfl rfl (by unfold fits; omega)) ?_
    refine OPS.val rfl rfl rfl (Ev.mvI rfl) ?_
    refine OPS.nil ?_
    have hj : j = ll.length := by simp at hc11; omega
    rw [hj, List.take_length, ← htt] at hO
    exact ⟨(by repeat (first | exact Agree.refl _ _ | exact Agree.mix _ _ _ | refine Agree.upd rfl ?_ | refine Agree.mix2 rfl ?_)), q - 1, by omega, i + 1, S, c, Lo, by omega, rfl, (by rw [htt, hj, List.take_length]; rfl), hO, H.drop (List.sublist_cons_self _ _)⟩
  have hi : i = R.length := by simp at hc8; omega
  subst hi
  have hti := htl R.length (by omega)
  rw [List.take_length] at hO hti ⊢
  obtain ⟨gS, sp, hSe, hLo, o1, o2, o3⟩ : ∃ gS sp, S = some ⟨gS, 0, none⟩ ∧ Lo = [⟨gS, 3, (f :: timesR bike f R).map I ++ sp⟩] ∧ (timesR bike f R).length + 1 ≤ c ∧ c ≤ maxLen ∧ ((f :: timesR bike f R).map I ++ sp).length = c * 1 := by
    rcases hO.form with ⟨_, h, _⟩ | h
    · omega
    · exact h
  subst hSe hLo
  obtain ⟨zs, hzs⟩ : ∃ zs, zs = f :: timesR bike f R := ⟨_, rfl⟩
  have hzl : (timesR bike f R).length + 1 = zs.length := by rw [hzs]; rfl
  rw [← hzs] at H
  rw [hzl]
  refine WP.exit ?_
  refine XB.hit ?_
  refine WP.seq ?_
  refine WP.region ?_
  refine OPS.val rfl rfl rfl (Ev.mvS rfl) ?_
  refine OPS.call (d := some 78) rfl rfl rfl (EvC.func (fun_run rfl)) (sortOwn gS zs sp c w (H.own ⟨gS, 3, zs.map I ++ sp⟩ (by simp)) (by rw [← hzl]; omega)) ?_
  rintro _ w ⟨rfl, Hc⟩
  refine ⟨_, rfl, ?_⟩
  replace H := SH.call (L1 := [_]) (Lv := [⟨gS, 3, zs.map I ++ sp⟩]) H Hc
  clear Hc hO
  obtain ⟨s, hse⟩ : ∃ s, s = srt zs := ⟨_, rfl⟩
  have hsl : zs.length = s.length := by rw [hse, srt_len]
  have hrO : reachO hs rs R bike k f lim = s.find? fun t => decide (lim ≤ wAt hs rs R bike k f t) := by rw [reachO, hse, hzs]; rfl
  rw [← hse] at H
  rw [hsl]
  simp only [List.cons_append, List.nil_append] at H
  refine OPS.nil ?_
  refine WP.seq ?_
  refine WP.seq ?_
  refine WP.region ?_
  refine OPS.val rfl rfl rfl (Ev.mvS rfl) ?_
  refine OPS.val rfl rfl rfl (Ev.len (el_run rfl) rfl) ?_
  refine OPS.val rfl rfl rfl (Ev.mvI rfl) ?_
  refine OPS.nil ?_
  refine WP.block ?_
  refine WP.loop [12, 13, 22, 81, 82, 83, 84, 85, 86, 87, 88, 89, 90, 91, 92, 93, 94, 95, 96, 97] (fun q e w' => ∃ (j : Nat), j + q = s.length ∧ e 81 = I j ∧ (s.find? fun t => decide (lim ≤ wAt hs rs R bike k f t)) = ((s.drop j).find? fun t => decide (lim ≤ wAt hs rs R bike k f t)) ∧ SH w0 [] w' [⟨g6, 24, [.slice HA hs.length hc, .slice RA rs.length rc]⟩, ⟨gS, 3, s.map I ++ sp⟩]) (s.length) (⟨0, by omega, rfl, rfl, H⟩) ?_
  clear H
  rintro q u w ⟨j, hq, h81, hfd, H⟩
  refine WP.know (t := 81) h81 ?_
  refine WP.seq ?_
  refine WP.region ?_
  refine OPS.val rfl rfl rfl (Ev.lss rfl rfl) ?_
  refine OPS.nil ?_
  refine WP.seq ?_
  refine WP.cond rfl (fun hc19 => ?_) (fun hc19 => ?_)
  · have hlt : j < s.length := by simpa using hc19
    obtain ⟨b, o, e, hcx⟩ := OnesAt.own (enc := I) H 1 rfl (l := s) rfl j hlt
    cases e
    rw [find_drop hlt, hwk] at hfd
    have hsb := sec_any (bike := bike) (f := f) (t := s[j]) a3 a2
    refine WP.skip ?_
    refine WP.seq ?_
    refine WP.block ?_
    refine WP.seq ?_
    refine WP.region ?_
    refine OPS.val rfl rfl rfl ((by first | exact Ev.indexAddr1 (el_run rfl) (size_run rfl) rfl rfl rfl (by omega) | exact Ev.indexAddr (el_run rfl) (size_run rfl) rfl rfl rfl (by omega))) ?_
    refine OPS.val rfl rfl rfl (Ev.load1 (agg_run rfl) rfl (by first | exact H.ldL 0 rfl _ rfl | exact H.ldL 1 rfl _ rfl | exact H.ldL 2 rfl _ rfl | exact H.ldL 3 rfl _ rfl | exact H.ldL 4 rfl _ rfl | exact H.ldL 5 rfl _ rfl | exact H.ldL 6 rfl _ rfl | exact H.ldL 7 rfl _ rfl | exact H.ld0 (by assumption) | assumption | exact H.ldS (by assumption) (by assumption))) ?_
    refine OPS.val rfl rfl rfl (Ev.asI rfl) ?_
    refine OPS.nil ?_
    refine WP.seq ?_
    refine WP.rquiet mixed (by kernel_rfl) H ?_
    clear H; intro w hbw21 H
    refine OPS.val rfl rfl rfl ((by first | exact Ev.loadO 0 H rfl (agg_run rfl) (size_run rfl) (by first | assumption | rfl) rfl | exact Ev.loadO 1 H rfl (agg_run rfl) (size_run rfl) (by first | assumption | rfl) rfl | exact Ev.loadO 2 H rfl (agg_run rfl) (size_run rfl) (by first | assumption | rfl) rfl | exact Ev.loadO 3 H rfl (agg_run rfl) (size_run rfl) (by first | assumption | rfl) rfl | exact Ev.loadO 4 H rfl (agg_run rfl) (size_run rfl) (by first | assumption | rfl) rfl | exact Ev.loadO 5 H rfl (agg_run rfl) (size_run rfl) (by first | assumption | rfl) rfl | exact Ev.loadO 6 H rfl (agg_run rfl) (size_run rfl) (by first | assumption | rfl) rfl | exact Ev.loadN [_, _] (agg_run rfl) (size_run rfl) rfl ⟨H.ldL 0 rfl _ rfl, H.ldL 0 rfl _ rfl, trivial⟩ | exact Ev.loadN [_, _] (agg_run rfl) (size_run rfl) rfl ⟨H.ldL 1 rfl _ rfl, H.ldL 1 rfl _ rfl, trivial⟩ | exact Ev.loadN [_, _] (agg_run rfl) (size_run rfl) rfl ⟨H.ldL 2 rfl _ rfl, H.ldL 2 rfl _ rfl, trivial⟩ | exact Ev.loadN [_, _] (agg_run rfl) (size_run rfl) rfl ⟨H.ldL 3 rfl _ rfl, H.ldL 3 rfl _ rfl, trivial⟩ | exact Ev.loadN [_, _] (agg_run rfl) (size_run rfl) rfl ⟨H.ldL 4 rfl _ rfl, H.ldL 4 rfl _ rfl, trivial⟩ | (change Ev _ _ _ _ (Op.load 24 (Operand.tmp 6)) _; fail))) ?_
    refine OPS.val rfl rfl rfl (Ev.mvI rfl) ?_
    refine OPS.val rfl rfl rfl (Ev.mvS rfl) ?_
    refine OPS.val rfl rfl rfl (Ev.mvI rfl) ?_
    refine OPS.val rfl rfl rfl (Ev.mvI rfl) ?_
    refine OPS.val rfl rfl rfl (Ev.mvI rfl) ?_
    refine OPS.val rfl rfl rfl (Ev.build (bld_29_0_1 rfl rfl)) ?_
    refine OPS.callq (v := .agg #[I (cntR bike f s[j] R), I (secR bike f s[j] R)]) rfl rfl rfl (EvC.func (fun_run rfl)) (fun w2 hb2 => wearUse2 A R cap bike f s[j] w2 ((hR.sh H).below hb2) a2 a3) ?_
    refine OPS.callq (v := I (wornV hs[k] (rs[k]'(by omega)) (cntR bike f s[j] R) (secR bike f s[j] R))) rfl rfl rfl (EvC.func (fun_run rfl)) (fun w2 hb2 => wearWorn HA RA hs rs hc rc k (cntR bike f s[j] R) (secR bike f s[j] R) w2 ((hW.sh H).below hb2) hkl (by omega) (k4 k hkl) (k5 k (by omega)) hsb.2 hsb.1) ?_
    refine OPS.val rfl rfl rfl (Ev.mvI rfl) ?_
    refine OPS.val rfl rfl rfl (Ev.geq rfl rfl) ?_
    refine OPS.nilq H ?_
    clear H; intro w hbx21 H
    refine WP.cond rfl (fun hc21 => ?_) (fun hc21 => ?_)
    · refine WP.seq ?_
      refine WP.region ?_
      refine OPS.val rfl rfl rfl (Ev.mvI rfl) ?_
      refine OPS.val rfl rfl rfl (Ev.asI rfl) ?_
      refine OPS.val rfl rfl rfl (Ev.asI rfl) ?_
      refine OPS.nil ?_
      refine WP.ret ⟨_, rfl, ?_⟩
      rw [if_pos hc21, ← hrO] at hfd
      have he0 : reachErr hs rs R bike k f lim = 0 := by rw [he, hfd]; rfl
      exact ⟨by rw [reachVal, he0, if_pos rfl, hfd]; rfl, H.below⟩
    refine WP.skip ?_
    refine WP.region ?_
    refine OPS.val rfl rfl rfl (Ev.add rfl rfl (by unfold fits; omega)) ?_
    refine OPS.val rfl rfl rfl (Ev.mvI rfl) ?_
    refine OPS.nil ?_
    exact ⟨(by repeat (first | exact Agree.refl _ _ | exact Agree.mix _ _ _ | refine Agree.upd rfl ?_ | refine Agree.mix2 rfl ?_)), q - 1, by omega, j + 1, by omega, rfl, by rw [hfd, if_neg (by rw [hc21]; simp)], H⟩
  refine WP.exit ?_
  refine XB.hit ?_
  refine WP.seq ?_
  refine WP.region ?_
  refine OPS.val rfl rfl rfl (Ev.asI rfl) ?_
  refine OPS.val rfl rfl rfl (Ev.asI rfl) ?_
  refine OPS.nil ?_
  refine WP.ret ⟨_, rfl, ?_⟩
  have hj : j = s.length := by simp at hc19; omega
  rw [hj, List.drop_length, List.find?_nil, ← hrO] at hfd
  have he0 : reachErr hs rs R bike k f lim = 10 := by rw [he, hfd]; rfl
  exact ⟨by rw [reachVal, he0, if_neg (by decide)]; rfl, H.below⟩
end Go.Proofs.Ytdlfadbdchjinaa
