/-
  Walk: the reference's Reaches.
-/
import Derived.Test.YtdlfadbdchjinaaW19
set_option linter.all false
namespace Go.Proofs.Ytdlfadbdchjinaa
open Go Go.W Go.RowKit

theorem cntL_empty {bike f : Int} : ∀ l : List Leg, cntL bike f f l = 0
  | [] => rfl
  | x :: l => by
    have : inB bike f f x = false := by unfold inB; grind
    rw [cntL, cntL_empty l, this]; rfl
theorem secL_empty {bike f : Int} {opn : Bool} : ∀ l : List Leg, secL bike f f opn l = 0
  | [] => rfl
  | x :: l => by
    have : inB bike f f x = false := by unfold inB; grind
    rw [secL, secL_empty l, this]; simp
theorem cntR_empty {bike f : Int} : ∀ R : List Ride, cntR bike f f R = 0 ∧ secR bike f f R = 0
  | [] => ⟨rfl, rfl⟩
  | r :: R => by
    have := cntR_empty (bike := bike) (f := f) R
    rw [cntR, secR, cntL_empty, secL_empty, this.1, this.2]; exact ⟨rfl, rfl⟩
theorem wAt_from (hs rs : List Int) (R : List Ride) (bike kind f : Int) : wAt hs rs R bike kind f f = 0 := by
  rw [wAt, (cntR_empty R).1, (cntR_empty R).2, wornV]; simp
theorem srt_mem {l : List Int} {x : Int} : x ∈ srt l ↔ x ∈ l := (srt_perm l).mem_iff
theorem reachO_min {hs rs : List Int} {R : List Ride} {bike kind f lim m : Int} (h : IsMin (fun t => decide (lim ≤ wAt hs rs R bike kind f t)) (atsL bike f R) m) : reachO hs rs R bike kind f lim = some m := by
  have hf := find_min (P := fun t => decide (lim ≤ wAt hs rs R bike kind f t)) (srt_sorted (atsL bike f R))
  cases ho : reachO hs rs R bike kind f lim with
  | none =>
    have := hf.2 ho m (srt_mem.2 h.mem)
    rw [h.ok] at this; cases this
  | some m' =>
    have h2 := hf.1 m' ho
    rw [h.unique h2 fun x => srt_mem.symm]
theorem reachO_none {hs rs : List Int} {R : List Ride} {bike kind f lim : Int} (h : ∀ x ∈ atsL bike f R, (fun t => decide (lim ≤ wAt hs rs R bike kind f t)) x = false) : reachO hs rs R bike kind f lim = none := by
  have hf := find_min (P := fun t => decide (lim ≤ wAt hs rs R bike kind f t)) (srt_sorted (atsL bike f R))
  cases ho : reachO hs rs R bike kind f lim with
  | none => rfl
  | some m' =>
    have h2 := hf.1 m' ho
    exact absurd (h2.ok.symm.trans (h m' (srt_mem.1 h2.mem))) (by simp)
theorem timesL_gt {bike f : Int} {l : List Leg} {x : Int} (h : x ∈ timesL bike f l) : f < x := by
  unfold timesL at h
  obtain ⟨y, hy, rfl⟩ := List.mem_map.1 h
  have := (List.mem_filter.1 hy).2
  simp at this; omega
theorem timesR_gt {bike f : Int} {R : List Ride} {x : Int} (h : x ∈ timesR bike f R) : f < x := by
  unfold timesR at h
  obtain ⟨r, _, hr⟩ := List.mem_flatMap.1 h
  exact timesL_gt hr
/-- the best so far -/
def Best (P : Int → Bool) (f : Int) (T : List Int) (b : Int) : Prop := (b = -1 ∧ ∀ x ∈ T, P x = false) ∨ (f < b ∧ IsMin P T b)
theorem Best.skip {P : Int → Bool} {f b t : Int} {T : List Int} (h : Best P f T b) (h2 : P t = false ∨ (0 ≤ b ∧ b ≤ t)) (hf : 0 ≤ f) : Best P f (T ++ [t]) b := by
  rcases h with ⟨rfl, h⟩ | ⟨hb, h⟩
  · refine .inl ⟨rfl, fun x hx => ?_⟩
    rcases List.mem_append.1 hx with hx | hx
    · exact h x hx
    · obtain rfl : x = t := by simpa using hx
      rcases h2 with h2 | h2
      · exact h2
      · omega
  · refine .inr ⟨hb, ⟨List.mem_append_left _ h.mem, h.ok, fun x hx hp => ?_⟩⟩
    rcases List.mem_append.1 hx with hx | hx
    · exact h.le x hx hp
    · obtain rfl : x = t := by simpa using hx
      rcases h2 with h2 | h2
      · rw [h2] at hp; cases hp
      · exact h2.2
theorem Best.take {P : Int → Bool} {f b t : Int} {T : List Int} (h : Best P f T b) (h2 : P t = true) (h3 : ¬ (0 ≤ b ∧ b ≤ t)) (ht : f < t) (hf : 0 ≤ f) : Best P f (T ++ [t]) t := by
  refine .inr ⟨ht, ⟨by simp, h2, fun x hx hp => ?_⟩⟩
  rcases List.mem_append.1 hx with hx | hx
  · rcases h with ⟨rfl, h⟩ | ⟨hb, h⟩
    · rw [h x hx] at hp; cases hp
    · have := h.le x hx hp; omega
  · obtain rfl : x = t := by simpa using hx
    exact Int.le_refl _
set_option maxHeartbeats 2000000 in
theorem r47Reaches (HA RA A : Option Addr) (hs rs : List Int) (R : List Ride) (hc rc cap : Nat) (bike kind f lim : Int) (w0 : World) (hW : WearAt w0 HA RA hs rs) (hR : RidesAt w0 A R) (hsm : R.length ≤ 256 → R.length ≤ 21 ∧ ∀ r ∈ R, r.L.l.length ≤ 40) :
    Calls Try.prog 17 #[.agg #[.slice HA hs.length hc, .slice RA rs.length rc], .slice A R.length cap, I bike, I kind, I f, I lim] w0 fun e w' => e = .returned (.tuple #[I (reachVal hs rs R bike kind f lim), I (reachErr hs rs R bike kind f lim)]) ∧ Below w0.heap.size w0 w' := by
  have H := SH.refl w0
  refine Calls.ofWP Try.func17 rfl Try.results17 Try.ntmps17 rfl ?_
  refine WP.seq ?_
  refine WP.region ?_
  refine OPS.box rfl rfl rfl rfl (cA rfl) H ?_
  clear H; intro g6 w H
  refine OPS.val rfl rfl rfl (Ev.asI rfl) ?_
  refine OPS.val rfl rfl rfl (Ev.asI rfl) ?_
  refine OPS.nil ?_
  refine WP.seq ?_
  refine WP.seq ?_
  refine WP.region ?_
  refine OPS.val rfl rfl rfl ((by first | exact Ev.loadO 0 H rfl (agg_run rfl) (size_run rfl) (by first | assumption | rfl) rfl | exact Ev.loadO 1 H rfl (agg_run rfl) (size_run rfl) (by first | assumption | rfl) rfl | exact Ev.loadO 2 H rfl (agg_run rfl) (size_run rfl) (by first | assumption | rfl) rfl | exact Ev.loadO 3 H rfl (agg_run rfl) (size_run rfl) (by first | assumption | rfl) rfl | exact Ev.loadO 4 H rfl (agg_run rfl) (size_run rfl) (by first | assumption | rfl) rfl | exact Ev.loadO 5 H rfl (agg_run rfl) (size_run rfl) (by first | assumption | rfl) rfl | exact Ev.loadO 6 H rfl (agg_run rfl) (size_run rfl) (by first | assumption | rfl) rfl | exact Ev.loadN [_, _] (agg_run rfl) (size_run rfl) rfl ⟨H.ldL 0 rfl _ rfl, H.ldL 0 rfl _ rfl, trivial⟩ | exact Ev.loadN [_, _] (agg_run rfl) (size_run rfl) rfl ⟨H.ldL 1 rfl _ rfl, H.ldL 1 rfl _ rfl, trivial⟩ | exact Ev.loadN [_, _] (agg_run rfl) (size_run rfl) rfl ⟨H.ldL 2 rfl _ rfl, H.ldL 2 rfl _ rfl, trivial⟩ | exact Ev.loadN [_, _] (agg_run rfl) (size_run rfl) rfl ⟨H.ldL 3 rfl _ rfl, H.ldL 3 rfl _ rfl, trivial⟩ | exact Ev.loadN [_, _] (agg_run rfl) (size_run rfl) rfl ⟨H.ldL 4 rfl _ rfl, H.ldL 4 rfl _ rfl, trivial⟩ | (change Ev _ _ _ _ (Op.load 24 (Operand.tmp 6)) _; fail))) ?_
  refine OPS.val rfl rfl rfl (Ev.mvS rfl) ?_
  refine OPS.val rfl rfl rfl (Ev.mvI rfl) ?_
  refine OPS.val rfl rfl rfl (Ev.mvI rfl) ?_
  refine OPS.val rfl rfl rfl (Ev.mvI rfl) ?_
  refine OPS.val rfl rfl rfl (Ev.build (bld_29_0_1 rfl rfl)) ?_
  refine OPS.call (d := some 29) rfl rfl rfl (EvC.func (fun_run rfl)) (r47Of HA RA A hs rs R hc rc cap bike kind f 4294944000 w (hW.sh H) (hR.sh H) hsm) ?_
  rintro _ w ⟨rfl, hb⟩
  refine ⟨_, rfl, ?_⟩
  replace H := H.toBelow hb; clear hb
  refine OPS.val rfl rfl rfl (Ev.mvT rfl) ?_
  refine OPS.val rfl rfl rfl (Ev.extract rfl rfl) ?_
  refine OPS.val rfl rfl rfl (Ev.extract rfl rfl) ?_
  refine OPS.val rfl rfl rfl (Ev.asI rfl) ?_
  refine OPS.val rfl rfl rfl (Ev.asI rfl) ?_
  refine OPS.nil ?_
  refine WP.seq ?_
  refine WP.region ?_
  refine OPS.val rfl rfl rfl (Ev.mvI rfl) ?_
  refine OPS.val rfl rfl rfl (Ev.neq rfl rfl) ?_
  refine OPS.nil ?_
  refine WP.cond rfl (fun hc2 => ?_) (fun hc2 => ?_)
  · refine WP.seq ?_
    refine WP.region ?_
    refine OPS.val rfl rfl rfl (Ev.mvI rfl) ?_
    refine OPS.val rfl rfl rfl (Ev.asI rfl) ?_
    refine OPS.val rfl rfl rfl (Ev.asI rfl) ?_
    refine OPS.nil ?_
    refine WP.ret ⟨_, rfl, ?_⟩
    have h1 : ofErr hs rs R bike kind f 4294944000 ≠ 0 := by simpa using hc2
    have he : reachErr hs rs R bike kind f lim = ofErr hs rs R bike kind f 4294944000 := by rw [reachErr, if_pos h1]
    exact ⟨by rw [reachVal, he, if_neg h1]; rfl, H.below⟩
  have h1 : ¬ ofErr hs rs R bike kind f 4294944000 ≠ 0 := by simpa using hc2
  obtain ⟨b1, ⟨k, rfl, hkl⟩, b3⟩ := of_ok (Classical.not_not.1 h1)
  obtain ⟨k1, k2, k3, k4, k5⟩ := wear_ok b1
  obtain ⟨a1, a2, a3⟩ := ask_ok b3
  have hw0 := wAt_from hs rs R bike k f
  refine WP.skip ?_
  refine WP.seq ?_
  refine WP.seq ?_
  refine WP.region ?_
  refine OPS.val rfl rfl rfl (Ev.mvI rfl) ?_
  refine OPS.val rfl rfl rfl (Ev.lss rfl rfl) ?_
  refine OPS.val rfl rfl rfl (Ev.mvB rfl) ?_
  refine OPS.gval rfl rfl rfl rfl rfl (fun hg => Ev.mvI (by first | rfl | exact gvE hg rfl)) ?_
  refine OPS.gval rfl rfl rfl rfl rfl (fun hg => Ev.gtr (by first | rfl | exact gvE hg rfl) (by first | rfl | exact gvE hg rfl)) ?_
  refine OPS.val rfl rfl rfl ((by first | exact Ev.pickOr rfl rfl rfl | exact Ev.pickAnd rfl rfl rfl)) ?_
  refine OPS.nil ?_
  refine WP.cond rfl (fun hc4 => ?_) (fun hc4 => ?_)
  · refine WP.seq ?_
    refine WP.region ?_
    refine OPS.val rfl rfl rfl (Ev.asI rfl) ?_
    refine OPS.val rfl rfl rfl (Ev.asI rfl) ?_
    refine OPS.nil ?_
    refine WP.ret ⟨_, rfl, ?_⟩
    have h2 : lim < 0 ∨ 1125899906842624 < lim := by grind
    have he : reachErr hs rs R bike k f lim = 1 := by rw [reachErr, if_neg h1, if_pos h2]
    exact ⟨by rw [reachVal, he, if_neg (by decide)]; rfl, H.below⟩
  have h2 : ¬ (lim < 0 ∨ 1125899906842624 < lim) := by grind
  have he : reachErr hs rs R bike k f lim = if (reachO hs rs R bike k f lim).isSome = true then 0 else 10 := by rw [reachErr, if_neg h1, if_neg h2]
  refine WP.skip ?_
  refine WP.seq ?_
  refine WP.seq ?_
  refine WP.region ?_
  refine OPS.val rfl rfl rfl (Ev.mvI rfl) ?_
  refine OPS.val rfl rfl rfl (Ev.eql rfl rfl) ?_
  refine OPS.nil ?_
  refine WP.cond rfl (fun hc6 => ?_) (fun hc6 => ?_)
  · refine WP.seq ?_
    refine WP.region ?_
    refine OPS.val rfl rfl rfl (Ev.mvI rfl) ?_
    refine OPS.val rfl rfl rfl (Ev.asI rfl) ?_
    refine OPS.val rfl rfl rfl (Ev.asI rfl) ?_
    refine OPS.nil ?_
    refine WP.ret ⟨_, rfl, ?_⟩
    have hl0 : lim = 0 := by simpa using hc6
    have ho : reachO hs rs R bike k f lim = some f := reachO_min ⟨by simp [atsL], by simp [hw0, hl0], fun x hx _ => by
      rcases List.mem_cons.1 hx with rfl | hx
      · exact Int.le_refl _
      · have := timesR_gt hx; omega⟩
    have he0 : reachErr hs rs R bike k f lim = 0 := by rw [he, ho]; rfl
    exact ⟨by rw [reachVal, he0, if_pos rfl, ho]; rfl, H.below⟩
  have hl0 : ¬ lim = 0 := by simpa using hc6
  obtain ⟨P, hP⟩ : ∃ P : Int → Bool, P = fun t => decide (lim ≤ wAt hs rs R bike k f t) := ⟨_, rfl⟩
  have hPf : P f = false := by rw [hP]; simp [hw0]; omega
  have hwk : ∀ t, P t = decide (lim ≤ wornV hs[k] (rs[k]'(by omega)) (cntR bike f t R) (secR bike f t R)) := fun t => by
    have e : wAt hs rs R bike k f t = wornV hs[k] (rs[k]'(by omega)) (cntR bike f t R) (secR bike f t R) := by rw [wAt, Int.toNat_natCast, getDk hkl, getDk (show k < rs.length by omega)]
    rw [hP]; exact congrArg (fun z => decide (lim ≤ z)) e
  refine WP.skip ?_
  refine WP.seq ?_
  refine WP.region ?_
  refine OPS.val rfl rfl rfl (Ev.asI rfl) ?_
  refine OPS.nil ?_
  refine WP.seq ?_
  refine WP.seq ?_
  refine WP.region ?_
  refine OPS.val rfl rfl rfl (Ev.asI rfl) ?_
  refine OPS.nil ?_
  refine WP.block ?_
  refine WP.loop [16, 17, 18, 19, 20, 21, 44, 45, 46, 47, 48, 49, 50, 51, 52, 53, 54, 55, 56, 57, 58, 59, 60, 61, 62, 63, 64, 65, 66, 67, 68, 69, 70, 71, 72, 73, 74, 75, 76, 77, 78, 79, 80, 81, 82, 83, 84, 85, 86, 87, 88, 89, 90, 91, 92, 93, 94, 95, 96, 97, 98, 99, 100, 101, 102, 103, 104, 105, 106, 107, 108, 109, 110, 111, 112] (fun q e w' => ∃ (i : Nat) (b : Int), i + q = R.length ∧ e 17 = I i ∧ e 16 = I b ∧ Best P f (timesR bike f (R.take i)) b ∧ SH w0 [] w' [⟨g6, 24, [.slice HA hs.length hc, .slice RA rs.length rc]⟩]) (R.length) (⟨0, -1, by omega, rfl, rfl, .inl ⟨rfl, fun x hx => by simp [timesR] at hx⟩, H⟩) ?_
  clear H
  rintro q u w ⟨i, b, hq, h17, h16, hB, H⟩
  refine WP.know (t := 17) h17 (WP.know (t := 16) h16 ?_)
  refine WP.seq ?_
  refine WP.seq ?_
  refine WP.region ?_
  refine OPS.val rfl rfl rfl (Ev.mvI rfl) ?_
  refine OPS.val rfl rfl rfl (Ev.mvS rfl) ?_
  refine OPS.val rfl rfl rfl (Ev.len (el_run rfl) rfl) ?_
  refine OPS.val rfl rfl rfl (Ev.lss rfl rfl) ?_
  refine OPS.nil ?_
  refine WP.cond rfl (fun hc10 => ?_) (fun hc10 => ?_)
  · have hlt : i < R.length := by simpa using hc10
    obtain ⟨bb, o, rfl, q1, q2, q3, q4, q5, q6, q7, q8, q9, _⟩ := hR.rows i hlt
    have hra := hR.each R[i] (List.getElem_mem hlt)
    have hok := a3 R[i] (List.getElem_mem hlt)
    have htt := timesR_take (bike := bike) (f := f) hlt
    obtain ⟨r, hr⟩ : ∃ r, r = R[i] := ⟨_, rfl⟩
    rw [← hr] at hra hok htt q8
    clear hr q1 q2 q3 q4 q5 q6 q7 q9
    obtain ⟨id, rider, sl, sh, el, eh, opn, ⟨LA, lc, ll⟩, ⟨PA, pc, pl⟩, fw, fp, wh, pp⟩ := r
    have hL := hra.legs
    have hll := hok.ll
    have hrng := hok.rng
    simp only at hL hll hrng htt q8
    obtain ⟨T0, hT0⟩ : ∃ T0, T0 = timesR bike f (R.take i) := ⟨_, rfl⟩
    rw [← hT0] at hB htt
    refine WP.skip ?_
    refine WP.seq ?_
    refine WP.block ?_
    refine WP.seq ?_
    refine WP.region ?_
    refine OPS.val rfl rfl rfl (Ev.asI rfl) ?_
    refine OPS.nil ?_
    refine WP.block ?_
    refine WP.loop [16, 18, 19, 20, 21, 50, 51, 52, 53, 54, 55, 56, 57, 58, 59, 60, 61, 62, 63, 64, 65, 66, 67, 68, 69, 70, 71, 72, 73, 74, 75, 76, 77, 78, 79, 80, 81, 82, 83, 84, 85, 86, 87, 88, 89, 90, 91, 92, 93, 94, 95, 96, 97, 98, 99, 100, 101, 102, 103, 104, 105, 106, 107, 108, 109, 110, 111, 112] (fun q e w' => ∃ (j : Nat) (b : Int), j + q = ll.length ∧ e 18 = I j ∧ e 16 = I b ∧ Best P f (T0 ++ timesL bike f (ll.take j)) b ∧ SH w0 [] w' [⟨g6, 24, [.slice HA hs.length hc, .slice RA rs.length rc]⟩]) (ll.length) (⟨0, b, by omega, rfl, rfl, by rw [List.take_zero, show timesL bike f [] = [] from rfl, List.append_nil]; exact hB, H⟩) ?_
    clear H hB
    rintro q2 u2 w ⟨j, b, hq2, h18, h16, hB, H⟩
    refine WP.know (t := 18) h18 (WP.know (t := 16) h16 ?_)
    refine WP.seq ?_
    refine WP.seq ?_
    refine WP.region ?_
    refine OPS.val rfl rfl rfl (Ev.mvI rfl) ?_
    refine OPS.val rfl rfl rfl (Ev.mvS rfl) ?_
    refine OPS.val rfl rfl rfl (Ev.mvI rfl) ?_
    refine OPS.val rfl rfl rfl ((by first | exact Ev.indexAddr1 (el_run rfl) (size_run rfl) rfl rfl rfl (by omega) | exact Ev.indexAddr (el_run rfl) (size_run rfl) rfl rfl rfl (by omega))) ?_
    refine OPS.val rfl rfl rfl (Ev.fieldAddr (fld_run rfl) rfl) ?_
    refine OPS.val rfl rfl rfl (Ev.load1 (agg_run rfl) rfl (by first | exact H.ldL 0 rfl _ rfl | exact H.ldL 1 rfl _ rfl | exact H.ldL 2 rfl _ rfl | exact H.ldL 3 rfl _ rfl | exact H.ldL 4 rfl _ rfl | exact H.ldL 5 rfl _ rfl | exact H.ldL 6 rfl _ rfl | exact H.ldL 7 rfl _ rfl | exact H.ld0 (by assumption) | assumption | exact H.ldS (by assumption) (by assumption))) ?_
    refine OPS.val rfl rfl rfl (Ev.len (el_run rfl) rfl) ?_
    refine OPS.val rfl rfl rfl (Ev.lss rfl rfl) ?_
    refine OPS.nil ?_
    refine WP.cond rfl (fun hc13 => ?_) (fun hc13 => ?_)
    · have hlt2 : j < ll.length := by simpa using hc13
      obtain ⟨b2, o2, rfl, p1, p2, p3, p4, p5, _⟩ := hL j hlt2
      have hxr := hrng ll[j] (List.getElem_mem hlt2)
      have htj := timesL_take (bike := bike) (f := f) hlt2
      obtain ⟨x, hx⟩ : ∃ x, x = ll[j] := ⟨_, rfl⟩
      rw [← hx] at p1 p2 hxr htj
      refine WP.skip ?_
      refine WP.seq ?_
      refine WP.block ?_
      refine WP.seq ?_
      refine WP.region ?_
      refine OPS.val rfl rfl rfl (Ev.mvS rfl) ?_
      refine OPS.val rfl rfl rfl (Ev.mvI rfl) ?_
      refine OPS.val rfl rfl rfl ((by first | exact Ev.indexAddr1 (el_run rfl) (size_run rfl) rfl rfl rfl (by omega) | exact Ev.indexAddr (el_run rfl) (size_run rfl) rfl rfl rfl (by omega))) ?_
      refine OPS.val rfl rfl rfl (Ev.fieldAddr (fld_run rfl) rfl) ?_
      refine OPS.val rfl rfl rfl (Ev.load1 (agg_run rfl) rfl (by first | exact H.ldL 0 rfl _ rfl | exact H.ldL 1 rfl _ rfl | exact H.ldL 2 rfl _ rfl | exact H.ldL 3 rfl _ rfl | exact H.ldL 4 rfl _ rfl | exact H.ldL 5 rfl _ rfl | exact H.ldL 6 rfl _ rfl | exact H.ldL 7 rfl _ rfl | exact H.ld0 (by assumption) | assumption | exact H.ldS (by assumption) (by assumption))) ?_
      refine OPS.val rfl rfl rfl (Ev.mvI rfl) ?_
      refine OPS.val rfl rfl rfl ((by first | exact Ev.indexAddr1 (el_run rfl) (size_run rfl) rfl rfl rfl (by omega) | exact Ev.indexAddr (el_run rfl) (size_run rfl) rfl rfl rfl (by omega))) ?_
      refine OPS.val rfl rfl rfl (Ev.fieldAddr (fld_run rfl) rfl) ?_
      refine OPS.val rfl rfl rfl (Ev.fieldAddr (fld_run rfl) rfl) ?_
      refine OPS.val rfl rfl rfl (Ev.load1 (agg_run rfl) rfl (by first | exact H.ldL 0 rfl _ rfl | exact H.ldL 1 rfl _ rfl | exact H.ldL 2 rfl _ rfl | exact H.ldL 3 rfl _ rfl | exact H.ldL 4 rfl _ rfl | exact H.ldL 5 rfl _ rfl | exact H.ldL 6 rfl _ rfl | exact H.ldL 7 rfl _ rfl | exact H.ld0 (by assumption) | assumption | exact H.ldS (by assumption) (by assumption))) ?_
      refine OPS.val rfl rfl rfl (Ev.add rfl rfl (by unfold fits; omega)) ?_
      refine OPS.val rfl rfl rfl (Ev.asI rfl) ?_
      refine OPS.nil ?_
      refine WP.seq ?_
      refine WP.seq ?_
      refine WP.region ?_
      refine OPS.val rfl rfl rfl (Ev.mvS rfl) ?_
      refine OPS.val rfl rfl rfl (Ev.mvI rfl) ?_
      refine OPS.val rfl rfl rfl ((by first | exact Ev.indexAddr1 (el_run rfl) (size_run rfl) rfl rfl rfl (by omega) | exact Ev.indexAddr (el_run rfl) (size_run rfl) rfl rfl rfl (by omega))) ?_
      refine OPS.val rfl rfl rfl (Ev.fieldAddr (fld_run rfl) rfl) ?_
      refine OPS.val rfl rfl rfl (Ev.load1 (agg_run rfl) rfl (by first | exact H.ldL 0 rfl _ rfl | exact H.ldL 1 rfl _ rfl | exact H.ldL 2 rfl _ rfl | exact H.ldL 3 rfl _ rfl | exact H.ldL 4 rfl _ rfl | exact H.ldL 5 rfl _ rfl | exact H.ldL 6 rfl _ rfl | exact H.ldL 7 rfl _ rfl | exact H.ld0 (by assumption) | assumption | exact H.ldS (by assumption) (by assumption))) ?_
      refine OPS.val rfl rfl rfl (Ev.mvI rfl) ?_
      refine OPS.val rfl rfl rfl ((by first | exact Ev.indexAddr1 (el_run rfl) (size_run rfl) rfl rfl rfl (by omega) | exact Ev.indexAddr (el_run rfl) (size_run rfl) rfl rfl rfl (by omega))) ?_
      refine OPS.val rfl rfl rfl (Ev.fieldAddr (fld_run rfl) rfl) ?_
      refine OPS.val rfl rfl rfl (Ev.load1 (agg_run rfl) rfl (by first | exact H.ldL 0 rfl _ rfl | exact H.ldL 1 rfl _ rfl | exact H.ldL 2 rfl _ rfl | exact H.ldL 3 rfl _ rfl | exact H.ldL 4 rfl _ rfl | exact H.ldL 5 rfl _ rfl | exact H.ldL 6 rfl _ rfl | exact H.ldL 7 rfl _ rfl | exact H.ld0 (by assumption) | assumption | exact H.ldS (by assumption) (by assumption))) ?_
      refine OPS.val rfl rfl rfl (Ev.mvI rfl) ?_
      refine OPS.val rfl rfl rfl (Ev.neq rfl rfl) ?_
      refine OPS.val rfl rfl rfl (Ev.mvB rfl) ?_
      refine OPS.gval rfl rfl rfl rfl rfl (fun hg => Ev.mvI (by first | rfl | exact gvE hg rfl)) ?_
      refine OPS.gval rfl rfl rfl rfl rfl (fun hg => Ev.mvI (by first | rfl | exact gvE hg rfl)) ?_
      refine OPS.gval rfl rfl rfl rfl rfl (fun hg => Ev.leq (by first | rfl | exact gvE hg rfl) (by first | rfl | exact gvE hg rfl)) ?_
      refine OPS.val rfl rfl rfl ((by first | exact Ev.pickOr rfl rfl rfl | exact Ev.pickAnd rfl rfl rfl)) ?_
      refine OPS.val rfl rfl rfl (Ev.mvB rfl) ?_
      refine OPS.gval rfl rfl rfl rfl rfl (fun hg => Ev.mvI (by first | rfl | exact gvE hg rfl)) ?_
      refine OPS.gval rfl rfl rfl rfl rfl (fun hg => Ev.geq (by first | rfl | exact gvE hg rfl) (by first | rfl | exact gvE hg rfl)) ?_
      refine OPS.gval rfl rfl rfl rfl rfl (fun hg => Ev.mvB (by first | rfl | exact gvE hg rfl)) ?_
      refine OPS.gvalN rfl rfl (GB.g rfl) rfl rfl (fun hg => Ev.mvI (by first | rfl | exact gvE hg rfl)) ?_
      refine OPS.gvalN rfl rfl (GB.g rfl) rfl rfl (fun hg => Ev.mvI (by first | rfl | exact gvE hg rfl)) ?_
      refine OPS.gvalN rfl rfl (GB.g rfl) rfl rfl (fun hg => Ev.geq (by first | rfl | exact gvE hg rfl) (by first | rfl | exact gvE hg rfl)) ?_
      refine OPS.gval rfl rfl rfl rfl rfl (fun hg => (by first | exact Ev.pickAnd2 (beqT hg) (gvE hg rfl) rfl rfl | exact Ev.pickOr2 (beqT hg) (gvE hg rfl) rfl rfl)) ?_
      refine OPS.val rfl rfl rfl ((by first | exact Ev.pickOr rfl rfl rfl | exact Ev.pickAnd rfl rfl rfl)) ?_
      refine OPS.nil ?_
      refine WP.cond rfl (fun hc16 => ?_) (fun hc16 => ?_)
      · have hB2 : Best P f (T0 ++ timesL bike f (ll.take (j + 1))) b := by
          by_cases hcd : (decide (x.bike = bike) && decide (f ≤ x.fl)) = true
          · rw [htj, if_pos hcd, ← List.append_assoc]
            exact hB.skip (.inr (by grind)) a1.2.1
          · rw [htj, if_neg hcd, List.append_nil]; exact hB
        refine WP.exit ?_
        refine XB.hit ?_
        refine WP.region ?_
        refine OPS.val rfl rfl rfl (Ev.mvI rfl) ?_
        refine OPS.val rfl rfl rfl (Ev.add rfl rfl (by unfold fits; omega)) ?_
        refine OPS.val rfl rfl rfl (Ev.asI rfl) ?_
        refine OPS.nil ?_
        exact ⟨(by repeat (first | exact Agree.refl _ _ | exact Agree.mix _ _ _ | refine Agree.upd rfl ?_ | refine Agree.mix2 rfl ?_)), q2 - 1, by omega, j + 1, _, by omega, rfl, rfl, hB2, H⟩
      have hcd : (decide (x.bike = bike) && decide (f ≤ x.fl)) = true := by grind
      have hnb : ¬ (0 ≤ b ∧ b ≤ x.fl + 1) := by grind
      have hfx : f < x.fl + 1 := by grind
      rw [if_pos hcd] at htj
      have hsb := sec_small (bike := bike) (f := f) (t := x.fl + 1) a3 (hsm a2).2 (hsm a2).1
      have hPx := hwk (x.fl + 1)
      refine WP.skip ?_
      refine WP.seq ?_
      refine WP.region ?_
      refine OPS.val rfl rfl rfl (Ev.mvS rfl) ?_
      refine OPS.val rfl rfl rfl (Ev.mvI rfl) ?_
      refine OPS.val rfl rfl rfl (Ev.mvI rfl) ?_
      refine OPS.val rfl rfl rfl (Ev.mvI rfl) ?_
      refine OPS.val rfl rfl rfl (Ev.build (bld_29_0_1 rfl rfl)) ?_
      refine OPS.call (d := some 102) rfl rfl rfl (EvC.func (fun_run rfl)) (r47Legs (some ⟨bb, o, none⟩) R cap bike f (x.fl + 1) w (hR.sh H) a2 a3) ?_
      rintro _ w ⟨rfl, hb⟩
      refine ⟨_, rfl, ?_⟩
      replace H := H.toBelow hb; clear hb
      refine OPS.val rfl rfl rfl (Ev.mvT rfl) ?_
      refine OPS.val rfl rfl rfl (Ev.extract rfl rfl) ?_
      refine OPS.val rfl rfl rfl (Ev.extract rfl rfl) ?_
      refine OPS.val rfl rfl rfl (Ev.asI rfl) ?_
      refine OPS.val rfl rfl rfl (Ev.asI rfl) ?_
      refine OPS.nil ?_
      refine WP.seq ?_
      refine WP.region ?_
      refine OPS.val rfl rfl rfl ((by first | exact Ev.loadO 0 H rfl (agg_run rfl) (size_run rfl) (by first | assumption | rfl) rfl | exact Ev.loadO 1 H rfl (agg_run rfl) (size_run rfl) (by first | assumption | rfl) rfl | exact Ev.loadO 2 H rfl (agg_run rfl) (size_run rfl) (by first | assumption | rfl) rfl | exact Ev.loadO 3 H rfl (agg_run rfl) (size_run rfl) (by first | assumption | rfl) rfl | exact Ev.loadO 4 H rfl (agg_run rfl) (size_run rfl) (by first | assumption | rfl) rfl | exact Ev.loadO 5 H rfl (agg_run rfl) (size_run rfl) (by first | assumption | rfl) rfl | exact Ev.loadO 6 H rfl (agg_run rfl) (size_run rfl) (by first | assumption | rfl) rfl | exact Ev.loadN [_, _] (agg_run rfl) (size_run rfl) rfl ⟨H.ldL 0 rfl _ rfl, H.ldL 0 rfl _ rfl, trivial⟩ | exact Ev.loadN [_, _] (agg_run rfl) (size_run rfl) rfl ⟨H.ldL 1 rfl _ rfl, H.ldL 1 rfl _ rfl, trivial⟩ | exact Ev.loadN [_, _] (agg_run rfl) (size_run rfl) rfl ⟨H.ldL 2 rfl _ rfl, H.ldL 2 rfl _ rfl, trivial⟩ | exact Ev.loadN [_, _] (agg_run rfl) (size_run rfl) rfl ⟨H.ldL 3 rfl _ rfl, H.ldL 3 rfl _ rfl, trivial⟩ | exact Ev.loadN [_, _] (agg_run rfl) (size_run rfl) rfl ⟨H.ldL 4 rfl _ rfl, H.ldL 4 rfl _ rfl, trivial⟩ | (change Ev _ _ _ _ (Op.load 24 (Operand.tmp 6)) _; fail))) ?_
      refine OPS.val rfl rfl rfl (Ev.mvI rfl) ?_
      refine OPS.val rfl rfl rfl (Ev.mvI rfl) ?_
      refine OPS.val rfl rfl rfl (Ev.mvI rfl) ?_
      refine OPS.call (d := some 109) rfl rfl rfl (EvC.func (fun_run rfl)) (r47Wear HA RA hs rs hc rc k (cntR bike f (x.fl + 1) R) (secR bike f (x.fl + 1) R) w (hW.sh H) hkl (by omega) (k4 k hkl) (k5 k (by omega)) (by omega) hsb.1) ?_
      rintro _ w ⟨rfl, hb⟩
      refine ⟨_, rfl, ?_⟩
      replace H := H.toBelow hb; clear hb
      refine OPS.val rfl rfl rfl (Ev.mvI rfl) ?_
      refine OPS.val rfl rfl rfl (Ev.geq rfl rfl) ?_
      refine OPS.nil ?_
      refine WP.cond rfl (fun hc18 => ?_) (fun hc18 => ?_)
      · rw [hc18] at hPx
        have hB2 : Best P f (T0 ++ timesL bike f (ll.take (j + 1))) (x.fl + 1) := by
          rw [htj, ← List.append_assoc]; exact hB.take hPx hnb hfx a1.2.1
        refine WP.region ?_
        refine OPS.val rfl rfl rfl (Ev.mvI rfl) ?_
        refine OPS.val rfl rfl rfl (Ev.asI rfl) ?_
        refine OPS.nil ?_
        refine WP.region ?_
        refine OPS.val rfl rfl rfl (Ev.mvI rfl) ?_
        refine OPS.val rfl rfl rfl (Ev.add rfl rfl (by unfold fits; omega)) ?_
        refine OPS.val rfl rfl rfl (Ev.asI rfl) ?_
        refine OPS.nil ?_
        exact ⟨(by repeat (first | exact Agree.refl _ _ | exact Agree.mix _ _ _ | refine Agree.upd rfl ?_ | refine Agree.mix2 rfl ?_)), q2 - 1, by omega, j + 1, _, by omega, rfl, rfl, hB2, H⟩
      rw [hc18] at hPx
      have hB2 : Best P f (T0 ++ timesL bike f (ll.take (j + 1))) b := by
        rw [htj, ← List.append_assoc]; exact hB.skip (.inl hPx) a1.2.1
      refine WP.skip ?_
      refine WP.region ?_
      refine OPS.val rfl rfl rfl (Ev.mvI rfl) ?_
      refine OPS.val rfl rfl rfl (Ev.add rfl rfl (by unfold fits; omega)) ?_
      refine OPS.val rfl rfl rfl (Ev.asI rfl) ?_
      refine OPS.nil ?_
      exact ⟨(by repeat (first | exact Agree.refl _ _ | exact Agree.mix _ _ _ | refine Agree.upd rfl ?_ | refine Agree.mix2 rfl ?_)), q2 - 1, by omega, j + 1, _, by omega, rfl, rfl, hB2, H⟩
    refine WP.exit ?_
    refine XB.hit ?_
    refine WP.region ?_
    refine OPS.val rfl rfl rfl (Ev.mvI rfl) ?_
    refine OPS.val rfl rfl rfl (Ev.add rfl rfl (by unfold fits; omega)) ?_
    refine OPS.val rfl rfl rfl (Ev.asI rfl) ?_
    refine OPS.nil ?_
    have hj : j = ll.length := by simp at hc13; omega
    rw [hj, List.take_length, ← htt] at hB
    exact ⟨(by repeat (first | exact Agree.refl _ _ | exact Agree.mix _ _ _ | refine Agree.upd rfl ?_ | refine Agree.mix2 rfl ?_)), q - 1, by omega, i + 1, _, by omega, rfl, rfl, hB, H⟩
  have hi : i = R.length := by simp at hc10; omega
  rw [hi, List.take_length] at hB
  refine WP.exit ?_
  refine XB.hit ?_
  refine WP.seq ?_
  refine WP.seq ?_
  refine WP.region ?_
  refine OPS.val rfl rfl rfl (Ev.mvI rfl) ?_
  refine OPS.val rfl rfl rfl (Ev.lss rfl rfl) ?_
  refine OPS.nil ?_
  refine WP.cond rfl (fun hc20 => ?_) (fun hc20 => ?_)
  · refine WP.seq ?_
    refine WP.region ?_
    refine OPS.val rfl rfl rfl (Ev.asI rfl) ?_
    refine OPS.val rfl rfl rfl (Ev.asI rfl) ?_
    refine OPS.nil ?_
    refine WP.ret ⟨_, rfl, ?_⟩
    have hb0 : b < 0 := by simpa using hc20
    have ho : reachO hs rs R bike k f lim = none := reachO_none fun x hx => by
      rw [← hP]
      rcases List.mem_cons.1 hx with rfl | hx
      · exact hPf
      · rcases hB with ⟨_, h⟩ | ⟨h, _⟩
        · exact h x hx
        · omega
    have he0 : reachErr hs rs R bike k f lim = 10 := by rw [he, ho]; rfl
    exact ⟨by rw [reachVal, he0, if_neg (by decide)]; rfl, H.below⟩
  refine WP.skip ?_
  refine WP.seq ?_
  refine WP.region ?_
  refine OPS.val rfl rfl rfl (Ev.mvI rfl) ?_
  refine OPS.val rfl rfl rfl (Ev.asI rfl) ?_
  refine OPS.val rfl rfl rfl (Ev.asI rfl) ?_
  refine OPS.nil ?_
  refine WP.ret ⟨_, rfl, ?_⟩
  have hb0 : ¬ b < 0 := by simpa using hc20
  have ho : reachO hs rs R bike k f lim = some b := reachO_min (by
    rw [← hP]
    rcases hB with ⟨h, _⟩ | ⟨hfb, h⟩
    · omega
    · exact ⟨List.mem_cons_of_mem _ h.mem, h.ok, fun x hx hp => by
        rcases List.mem_cons.1 hx with rfl | hx
        · rw [hPf] at hp; cases hp
        · exact h.le x hx hp⟩)
  have he0 : reachErr hs rs R bike k f lim = 0 := by rw [he, ho]; rfl
  exact ⟨by rw [reachVal, he0, if_pos rfl, ho]; rfl, H.below⟩
end Go.Proofs.Ytdlfadbdchjinaa
