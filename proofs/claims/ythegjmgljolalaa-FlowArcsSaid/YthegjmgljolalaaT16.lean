/-
  Walk: Valid.
-/
import Derived.Test.YthegjmgljolalaaT13
import Derived.Test.YthegjmgljolalaaPtr
set_option linter.all false
namespace Go.Proofs.Ythegjmgljolalaa
open Go Go.W Go.RowKit

theorem netOut_take (p : Int → Int) : ∀ (l : List Arc) (on : List Int) (j : Nat) (h : j < l.length) (h2 : j < on.length), netOut p (l.take (j + 1)) (on.take (j + 1)) = netOut p (l.take j) (on.take j) + on[j] * (p l[j].f - p l[j].t)
  | [], _, _, h, _ => by simp at h
  | _ :: _, [], _, _, h => by simp at h
  | a :: l, x :: on, 0, _, _ => by simp [netOut]
  | a :: l, x :: on, j + 1, h, h2 => by
    simp only [List.take_succ_cons, netOut, List.getElem_cons_succ]
    rw [netOut_take p l on j (by simpa using h) (by simpa using h2)]; omega
/-- a flow of its amount with its cost -/
structure ValidP (n f t : Int) (l : List Arc) (amt cost : Int) (on : List Int) : Prop where
  ends : endsErr n l f t = 0
  pos : 0 ≤ amt
  flow : IsFlow n.toNat l f t on amt
  cost : costOf l on = cost
/-- what has been gained at each node, by the first j arcs -/
structure GainI (m : Nat) (l : List Arc) (on : List Int) (j : Nat) (gain : List Int) : Prop where
  len : gain.length = m
  at_ : ∀ v : Nat, v < m → gain.getD v 0 = -netOut (ind v) (l.take j) (on.take j)
  bd : ∀ v : Nat, v < m → -65536 * (j : Int) ≤ gain.getD v 0 ∧ gain.getD v 0 ≤ 65536 * (j : Int)
theorem getD_setI {g : List Int} {a v : Nat} {x : Int} (h : a < g.length) : (g.set a x).getD v 0 = if a = v then x else g.getD v 0 := by
  by_cases hv : a = v
  · subst hv; simp [h]
  · simp [hv, List.getElem?_set]
theorem ind_nat (v a : Nat) : ind v a = if a = v then 1 else 0 := by
  unfold ind
  by_cases h : a = v
  · subst h; simp
  · rw [if_neg h, if_neg (by omega)]
theorem GainI.step {m : Nat} {l : List Arc} {on : List Int} {j : Nat} {gain : List Int} (h : GainI m l on j gain) (hj : j < l.length) (hj2 : j < on.length) {a b : Nat} (ha : l[j].f = a) (hb : l[j].t = b) (ham : a < m) (hbm : b < m) (hx : 0 ≤ on[j] ∧ on[j] ≤ 65536) :
    GainI m l on (j + 1) ((gain.set a (gain.getD a 0 - on[j])).set b ((gain.set a (gain.getD a 0 - on[j])).getD b 0 + on[j])) := by
  have hl := h.len
  have hal : a < gain.length := by omega
  have hbl : b < (gain.set a (gain.getD a 0 - on[j])).length := by rw [List.length_set]; omega
  have hv : ∀ v : Nat, v < m → ((gain.set a (gain.getD a 0 - on[j])).set b ((gain.set a (gain.getD a 0 - on[j])).getD b 0 + on[j])).getD v 0 = gain.getD v 0 - on[j] * (ind v a - ind v b) := fun v _ => by
    rw [getD_setI hbl, getD_setI hal, getD_setI hal, ind_nat, ind_nat]
    by_cases h1 : b = v <;> by_cases h2 : a = v
    · subst h1; subst h2; simp only [if_true]; omega
    · subst h1; simp only [if_neg h2, if_true]; omega
    · subst h2; simp only [if_neg h1, if_true]; omega
    · simp only [if_neg h1, if_neg h2]; omega
  refine ⟨by simp [hl], fun v hvm => ?_, fun v hvm => ?_⟩
  · rw [hv v hvm, h.at_ v hvm, netOut_take _ l on j hj hj2, ha, hb]; omega
  · rw [hv v hvm]
    have := h.bd v hvm
    rw [ind_nat, ind_nat]
    generalize gain.getD v 0 = G at *
    split <;> split <;> omega

set_option maxHeartbeats 1000000 in
theorem flowValid (n f t amt cost : Int) (A B Bp : Option Addr) (l : List Arc) (on : List Int) (cap cap2 np cap3 : Nat) (w0 : World) (hz : ArcsAt w0 A l) (ho : IntsAt w0 B on) :
    Calls Try.prog 23 #[.agg #[I n, .slice A l.length cap], I f, I t, .agg #[I amt, I cost, .slice B on.length cap2, .slice Bp np cap3]] w0 fun e w' => ∃ b : Bool, e = .returned (.bool b) ∧ (b = true ↔ ValidP n f t l amt cost on) ∧ Below w0.heap.size w0 w' := by
  have H := SH.refl w0
  refine Calls.ofWP Try.func23 rfl Try.results23 Try.ntmps23 rfl ?_
  refine WP.seq ?_
  refine WP.region ?_
  refine OPS.box rfl rfl rfl rfl (cA rfl) H ?_
  clear H; intro g4 w H
  refine OPS.box rfl rfl rfl rfl (cA rfl) H ?_
  clear H; intro g7 w H
  refine OPS.val rfl rfl rfl (Ev.asB rfl) ?_
  refine OPS.nil ?_
  refine WP.seq ?_
  refine WP.seq ?_
  refine WP.region ?_
  refine OPS.val rfl rfl rfl ((by exact Ev.loadO 1 H rfl (agg_run rfl) (size_run rfl) (by rfl) rfl)) ?_
  refine OPS.val rfl rfl rfl (Ev.mvI rfl) ?_
  refine OPS.val rfl rfl rfl (Ev.mvI rfl) ?_
  refine OPS.call (d := some 17) rfl rfl rfl (EvC.func (fun_run rfl)) (flowEnds n f t A l cap w (hz.sh H)) ?_
  rintro _ w ⟨rfl, hb⟩
  refine ⟨_, rfl, ?_⟩
  replace H := H.toBelow hb; clear hb
  refine OPS.val rfl rfl rfl (Ev.neq rfl rfl) ?_
  refine OPS.val rfl rfl rfl (Ev.mvB rfl) ?_
  refine OPS.gval rfl rfl rfl rfl rfl (fun hg => Ev.fieldAddr (fld_run rfl) (by rfl)) ?_
  refine OPS.gval rfl rfl rfl rfl rfl (fun hg => Ev.load1 (agg_run rfl) (by exact gvE hg rfl) (by exact H.ldL 0 rfl _ rfl)) ?_
  refine OPS.gval rfl rfl rfl rfl rfl (fun hg => Ev.len (el_run rfl) (by exact gvE hg rfl)) ?_
  refine OPS.gval rfl rfl rfl rfl rfl (fun hg => Ev.fieldAddr (fld_run rfl) (by rfl)) ?_
  refine OPS.gval rfl rfl rfl rfl rfl (fun hg => Ev.load1 (agg_run rfl) (by exact gvE hg rfl) (by exact H.ldL 1 rfl _ rfl)) ?_
  refine OPS.gval rfl rfl rfl rfl rfl (fun hg => Ev.len (el_run rfl) (by exact gvE hg rfl)) ?_
  refine OPS.gval rfl rfl rfl rfl rfl (fun hg => Ev.neq (by exact gvE hg rfl) (by exact gvE hg rfl)) ?_
  refine OPS.val rfl rfl rfl ((by exact Ev.pickOr rfl rfl rfl)) ?_
  refine OPS.val rfl rfl rfl (Ev.mvB rfl) ?_
  refine OPS.gval rfl rfl rfl rfl rfl (fun hg => Ev.fieldAddr (fld_run rfl) (by rfl)) ?_
  refine OPS.gval rfl rfl rfl rfl rfl (fun hg => Ev.load1 (agg_run rfl) (by exact gvE hg rfl) (by exact H.ldL 0 rfl _ rfl)) ?_
  refine OPS.gval rfl rfl rfl rfl rfl (fun hg => Ev.lss (by exact gvE hg rfl) (by rfl)) ?_
  refine OPS.val rfl rfl rfl ((by exact Ev.pickOr rfl rfl rfl)) ?_
  refine OPS.nil ?_
  refine WP.cond rfl (fun hc1 => ?_) (fun hc1 => ?_)
  · have hno : ¬ ValidP n f t l amt cost on := by
      rintro ⟨q1, q2, q3, q4⟩
      have q5 := q3.v.len
      simp [q1, q5] at hc1; omega
    refine WP.seq ?_
    refine WP.region ?_
    refine OPS.val rfl rfl rfl (Ev.asB rfl) ?_
    refine OPS.nil ?_
    refine WP.ret ⟨_, rfl, ?_⟩
    exact ⟨false, rfl, ⟨(fun h => by cases h), fun h => absurd h hno⟩, H.below⟩
  simp only [Bool.or_eq_false_iff, Bool.not_eq_false', decide_eq_true_eq, decide_eq_false_iff_not] at hc1
  obtain ⟨⟨h0, hol⟩, ha0⟩ := hc1
  have hol : on.length = l.length := by omega
  obtain ⟨m, s, d, hE⟩ := endsOk_of h0
  have e1 := hE.hn
  have e2 := hE.hf
  have e3 := hE.ht
  subst e1 e2 e3
  have hN := hE.net
  have hn2 := hN.n2
  have hll := hN.len
  refine WP.skip ?_
  refine WP.seq ?_
  refine WP.region ?_
  refine OPS.val rfl rfl rfl (Ev.fieldAddr (fld_run rfl) rfl) ?_
  refine OPS.val rfl rfl rfl (Ev.load1 (agg_run rfl) rfl (by exact H.ldL 1 rfl _ rfl)) ?_
  refine OPS.makeSlice rfl rfl rfl rfl (sl_run rfl) rfl rfl rfl (by omega) (by omega) H ?_
  clear H; intro g35 w H
  refine OPS.val rfl rfl rfl (Ev.asS rfl) ?_
  refine OPS.nil ?_
  refine WP.seq ?_
  refine WP.seq ?_
  refine WP.region ?_
  refine OPS.val rfl rfl rfl (Ev.fieldAddr (fld_run rfl) rfl) ?_
  refine OPS.val rfl rfl rfl (Ev.load1 (agg_run rfl) rfl (by exact H.ldL 2 rfl _ rfl)) ?_
  refine OPS.val rfl rfl rfl (Ev.len (el_run rfl) rfl) ?_
  refine OPS.val rfl rfl rfl (Ev.mvI rfl) ?_
  refine OPS.nil ?_
  refine WP.block ?_
  refine WP.loop [8, 10, 11, 39, 40, 41, 42, 43, 44, 45, 46, 47, 48, 49, 50, 51, 52, 53, 54, 55, 56, 57, 58, 59, 60, 61, 62, 63, 64, 65, 66, 67, 68, 69, 70, 71, 72, 73, 74, 75, 76, 77, 78, 79, 80, 81, 82, 83, 84] (fun k e w' => ∃ (j : Nat) (gain : List Int), j + k = l.length ∧ e 39 = I j ∧ SH w0 [] w' [⟨g35, 3, gain.map I⟩, ⟨g7, 38, [I amt, I cost, .slice B on.length cap2, .slice Bp np cap3]⟩, ⟨g4, 24, [I m, .slice A l.length cap]⟩] ∧ GainI m l on j gain ∧ ∀ i (h : i < l.length), i < j → 0 ≤ on[i] ∧ on[i] ≤ l[i].cap) (l.length) (⟨0, List.replicate m 0, by omega, rfl, by rw [← mkL_ones]; exact H, ⟨by simp, fun v hv => by simp [hv, netOut], fun v hv => by simp [hv]⟩, fun i _ h => absurd h (by omega)⟩) ?_
  clear H
  rintro k u w ⟨j, gain, hk, h39, H, hG, hall⟩
  refine WP.know (t := 39) h39 ?_
  refine WP.seq ?_
  refine WP.region ?_
  refine OPS.val rfl rfl rfl (Ev.lss rfl rfl) ?_
  refine OPS.nil ?_
  refine WP.seq ?_
  refine WP.cond rfl (fun hc5 => ?_) (fun hc5 => ?_)
  · have hlt : j < l.length := by simpa using hc5
    have hlt2 : j < on.length := by omega
    obtain ⟨b, o, rfl, hc⟩ := hz j hlt
    obtain ⟨b2, o2, rfl, hx⟩ := ho j hlt2
    have hc' := cellsAt_sh H hc
    have h1 := hN.nodes l[j] (List.getElem_mem _)
    have h2 := hN.caps l[j] (List.getElem_mem _)
    obtain ⟨a, hfa⟩ := Int.eq_ofNat_of_zero_le h1.1.1
    obtain ⟨b', htb⟩ := Int.eq_ofNat_of_zero_le h1.2.1
    have ham : a < m := by omega
    have hbm : b' < m := by omega
    have hgl := hG.len
    refine WP.skip ?_
    refine WP.seq ?_
    refine WP.block ?_
    refine WP.seq ?_
    refine WP.region ?_
    refine OPS.val rfl rfl rfl (Ev.mvI rfl) ?_
    refine OPS.val rfl rfl rfl ((by exact Ev.indexAddr (el_run rfl) (size_run rfl) rfl rfl rfl (by omega))) ?_
    refine OPS.val rfl rfl rfl ((by (change Ev _ _ _ _ (Op.load 46 (Operand.tmp 42)) _; exact Ev.loadN (arcCells l[j]) (agg_run rfl) (size_run rfl) rfl hc'))) ?_
    refine OPS.alloc rfl rfl rfl rfl (zero_run rfl) rfl H ?_
    clear H; intro g11 w H
    refine OPS.val rfl rfl rfl (Ev.asI rfl) ?_
    refine OPS.store 0 _ rfl rfl rfl (size_run rfl) rfl (cA rfl) rfl rfl H rfl (by simp) ?_
    clear H; intro w H; try simp only [List.set_cons_zero, List.set_cons_succ, putL, Nat.zero_add] at H
    refine OPS.nil ?_
    refine WP.seq ?_
    refine WP.seq ?_
    refine WP.rstill mixed (by kernel_rfl) H ?_
    clear H; intro w hbw7 H
    refine OPS.val rfl rfl rfl (Ev.fieldAddr (fld_run rfl) rfl) ?_
    refine OPS.val rfl rfl rfl (Ev.load1 (agg_run rfl) rfl (by exact H.ldL 2 rfl _ rfl)) ?_
    refine OPS.val rfl rfl rfl (Ev.mvI rfl) ?_
    refine OPS.val rfl rfl rfl ((by exact Ev.indexAddr1 (el_run rfl) (size_run rfl) rfl rfl rfl (by omega))) ?_
    refine OPS.val rfl rfl rfl (Ev.load1 (agg_run rfl) rfl (by exact H.ld0 (by assumption))) ?_
    refine OPS.val rfl rfl rfl (Ev.lss rfl rfl) ?_
    refine OPS.val rfl rfl rfl (Ev.mvB rfl) ?_
    refine OPS.gval rfl rfl rfl rfl rfl (fun hg => Ev.fieldAddr (fld_run rfl) (by rfl)) ?_
    refine OPS.gval rfl rfl rfl rfl rfl (fun hg => Ev.load1 (agg_run rfl) (by exact gvE hg rfl) (by exact H.ldL 2 rfl _ rfl)) ?_
    refine OPS.gval rfl rfl rfl rfl rfl (fun hg => Ev.mvI (by rfl)) ?_
    refine OPS.gval rfl rfl rfl rfl rfl (fun hg => (by exact Ev.indexAddr1 (el_run rfl) (size_run rfl) (by exact gvE hg rfl) (by exact gvE hg rfl) rfl (by omega))) ?_
    refine OPS.gval rfl rfl rfl rfl rfl (fun hg => Ev.load1 (agg_run rfl) (by exact gvE hg rfl) (by exact H.ld0 (by assumption))) ?_
    refine OPS.gval rfl rfl rfl rfl rfl (fun hg => Ev.fieldAddr (fld_run rfl) (by rfl)) ?_
    refine OPS.gval rfl rfl rfl rfl rfl (fun hg => Ev.load1 (agg_run rfl) (by exact gvE hg rfl) (by exact H.ldL 0 rfl _ rfl)) ?_
    refine OPS.gval rfl rfl rfl rfl rfl (fun hg => Ev.gtr (by exact gvE hg rfl) (by exact gvE hg rfl)) ?_
    refine OPS.val rfl rfl rfl ((by exact Ev.pickOr rfl rfl rfl)) ?_
    refine OPS.nil_s ?_
    refine WP.cond rfl (fun hc7 => ?_) (fun hc7 => ?_)
    · have hno : ¬ ValidP m s d l amt cost on := by
        rintro ⟨q1, q2, q3, q4⟩
        have := q3.v.bd j hlt hlt2
        simp at hc7; omega
      refine WP.seq ?_
      refine WP.region ?_
      refine OPS.val rfl rfl rfl (Ev.asB rfl) ?_
      refine OPS.nil ?_
      refine WP.ret ⟨_, rfl, ?_⟩
      exact ⟨false, rfl, ⟨(fun h => by cases h), fun h => absurd h hno⟩, H.below⟩
    have hxj : 0 ≤ on[j] ∧ on[j] ≤ l[j].cap := by simp at hc7; omega
    have hxj2 : 0 ≤ on[j] ∧ on[j] ≤ 65536 := by omega
    have hG2 := hG.step hlt hlt2 hfa htb ham hbm hxj2
    have hga : gain.getD a 0 = gain[a]'(by omega) := by simp [hgl, ham]
    have hgb := hG.bd a ham
    rw [hga] at hG2 hgb
    have hgl1 : (gain.set a (gain[a] - on[j])).length = m := by simp [hgl]
    have hg1 : (gain.set a (gain[a] - on[j])).getD b' 0 = (gain.set a (gain[a] - on[j]))[b']'(by omega) := by simp [hgl, hbm]
    have hg1b : -200000000 ≤ (gain.set a (gain[a] - on[j]))[b']'(by omega) ∧ (gain.set a (gain[a] - on[j]))[b']'(by omega) ≤ 200000000 := by
      rw [← hg1, getD_setI (by omega)]
      have := hG.bd b' hbm
      split <;> omega
    rw [hg1] at hG2
    refine WP.skip ?_
    refine WP.seq ?_
    rw [show arcCells l[j] = [I a, I b', I l[j].cap, I l[j].cost] from by unfold arcCells; rw [hfa, htb]] at H
    refine WP.rtail 12 mixed (by kernel_rfl) H ?_
    clear H; intro w hbw9 H
    obtain ⟨_, _, e1, hgc⟩ := onesOwn H 1 rfl a (by omega)
    cases e1
    refine OPS.val rfl rfl rfl (Ev.mvS rfl) ?_
    refine OPS.val rfl rfl rfl (Ev.fieldAddr (fld_run rfl) rfl) ?_
    refine OPS.val rfl rfl rfl (Ev.load1 (agg_run rfl) rfl (by exact H.ldL 0 rfl _ rfl)) ?_
    refine OPS.val rfl rfl rfl ((by exact Ev.indexAddr1 (el_run rfl) (size_run rfl) rfl rfl rfl (by omega))) ?_
    refine OPS.val rfl rfl rfl (Ev.load1 (agg_run rfl) rfl (by assumption)) ?_
    refine OPS.val rfl rfl rfl (Ev.fieldAddr (fld_run rfl) rfl) ?_
    refine OPS.val rfl rfl rfl (Ev.load1 (agg_run rfl) rfl (by exact H.ldL 2 rfl _ rfl)) ?_
    refine OPS.val rfl rfl rfl (Ev.mvI rfl) ?_
    refine OPS.val rfl rfl rfl ((by exact Ev.indexAddr1 (el_run rfl) (size_run rfl) rfl rfl rfl (by omega))) ?_
    refine OPS.val rfl rfl rfl (Ev.load1 (agg_run rfl) rfl (by exact H.ld0 (by assumption))) ?_
    refine OPS.val rfl rfl rfl (Ev.sub rfl rfl (by unfold fits; omega)) ?_
    refine OPS.val rfl rfl rfl ((by exact Ev.indexAddr1 (el_run rfl) (size_run rfl) rfl rfl rfl (by omega))) ?_
    refine OPS.nil_s ?_
    have hpu : putL (gain.map I) (0 + a) [I (gain[a] - on[j])] = (gain.set a (gain[a] - on[j])).map I := by rw [Nat.zero_add, putL_ones]
    refine OPS.store (vs := [I (gain[a] - on[j])]) 1 _ rfl rfl rfl (size_run rfl) rfl (cI rfl) rfl rfl H rfl (by simp only [List.length_map]; omega) ?_
    clear H; intro w H
    simp only [List.set_cons_zero, List.set_cons_succ] at H
    rw [hpu] at H
    refine OPS.nil ?_
    refine WP.rtail 12 mixed (by kernel_rfl) H ?_
    clear H; intro w hbw10 H
    obtain ⟨_, _, e1, hgc⟩ := onesOwn H 1 rfl b' (by omega)
    cases e1
    refine OPS.val rfl rfl rfl (Ev.mvS rfl) ?_
    refine OPS.val rfl rfl rfl (Ev.fieldAddr (fld_run rfl) rfl) ?_
    refine OPS.val rfl rfl rfl (Ev.load1 (agg_run rfl) rfl (by exact H.ldL 0 rfl _ rfl)) ?_
    refine OPS.val rfl rfl rfl ((by exact Ev.indexAddr1 (el_run rfl) (size_run rfl) rfl rfl rfl (by omega))) ?_
    refine OPS.val rfl rfl rfl (Ev.load1 (agg_run rfl) rfl (by assumption)) ?_
    refine OPS.val rfl rfl rfl (Ev.fieldAddr (fld_run rfl) rfl) ?_
    refine OPS.val rfl rfl rfl (Ev.load1 (agg_run rfl) rfl (by exact H.ldL 2 rfl _ rfl)) ?_
    refine OPS.val rfl rfl rfl (Ev.mvI rfl) ?_
    refine OPS.val rfl rfl rfl ((by exact Ev.indexAddr1 (el_run rfl) (size_run rfl) rfl rfl rfl (by omega))) ?_
    refine OPS.val rfl rfl rfl (Ev.load1 (agg_run rfl) rfl (by exact H.ld0 (by assumption))) ?_
    refine OPS.val rfl rfl rfl (Ev.add rfl rfl (by unfold fits; omega)) ?_
    refine OPS.val rfl rfl rfl ((by exact Ev.indexAddr1 (el_run rfl) (size_run rfl) rfl rfl rfl (by omega))) ?_
    refine OPS.nil_s ?_
    have hpu : putL ((gain.set a (gain[a] - on[j])).map I) (0 + b') [I ((gain.set a (gain[a] - on[j]))[b'] + on[j])] = ((gain.set a (gain[a] - on[j])).set b' ((gain.set a (gain[a] - on[j]))[b'] + on[j])).map I := by rw [Nat.zero_add, putL_ones]
    refine OPS.store (vs := [I ((gain.set a (gain[a] - on[j]))[b'] + on[j])]) 1 _ rfl rfl rfl (size_run rfl) rfl (cI rfl) rfl rfl H rfl (by simp only [List.length_map]; omega) ?_
    clear H; intro w H
    simp only [List.set_cons_zero, List.set_cons_succ] at H
    rw [hpu] at H
    refine OPS.nil ?_
    refine WP.region ?_
    refine OPS.val rfl rfl rfl (Ev.add rfl rfl (by unfold fits; omega)) ?_
    refine OPS.val rfl rfl rfl (Ev.mvI rfl) ?_
    refine OPS.nil ?_
    refine ⟨(by repeat (first | exact Agree.refl _ _ | exact Agree.mix _ _ _ | refine Agree.upd rfl ?_ | refine Agree.mix2 rfl ?_)), k - 1, by omega, j + 1, _, by omega, rfl, H.drop (List.sublist_cons_self _ _), hG2, fun i hi hij => ?_⟩
    rcases Nat.lt_succ_iff_lt_or_eq.1 hij with h | rfl
    · exact hall i hi h
    · exact hxj
  have hjl : j = l.length := by simp at hc5; omega
  have hgl := hG.len
  have hV : VFlow l on := ⟨hol, fun i h h2 => hall i h (by omega)⟩
  have hgv : ∀ v : Nat, v < m → gain.getD v 0 = -netOut (ind v) l on := fun v hv => by
    have := hG.at_ v hv
    rw [hjl, List.take_length, ← hol, List.take_length] at this; exact this
  refine WP.exit ?_
  refine XB.hit ?_
  refine WP.seq ?_
  refine WP.seq ?_
  refine WP.region ?_
  refine OPS.val rfl rfl rfl (Ev.mvS rfl) ?_
  refine OPS.val rfl rfl rfl (Ev.len (el_run rfl) rfl) ?_
  refine OPS.val rfl rfl rfl (Ev.mvI rfl) ?_
  refine OPS.nil ?_
  refine WP.block ?_
  refine WP.loop [8, 12, 13, 87, 88, 89, 90, 91, 92, 93, 94, 95, 96, 97, 98, 99, 100, 101, 102, 103, 104] (fun k e w' => ∃ q : Nat, q + k = m ∧ e 87 = I q ∧ SH w0 [] w' [⟨g35, 3, gain.map I⟩, ⟨g7, 38, [I amt, I cost, .slice B on.length cap2, .slice Bp np cap3]⟩, ⟨g4, 24, [I m, .slice A l.length cap]⟩] ∧ ∀ v : Nat, v < q → v ≠ s → v ≠ d → netOut (ind v) l on = 0) (m) (⟨0, by omega, rfl, H, fun v hv => absurd hv (by omega)⟩) ?_
  clear H
  rintro k u w ⟨q, hq, h87, H, hzv⟩
  refine WP.know (t := 87) h87 ?_
  refine WP.seq ?_
  refine WP.region ?_
  refine OPS.val rfl rfl rfl (Ev.lss rfl rfl) ?_
  refine OPS.nil ?_
  refine WP.seq ?_
  refine WP.cond rfl (fun hc13 => ?_) (fun hc13 => ?_)
  · have hqm : q < m := by simp at hc13; omega
    have hgq := hgv q hqm
    have hgq2 : gain.getD q 0 = gain[q]'(by omega) := by simp [hgl, hqm]
    rw [hgq2] at hgq
    refine WP.skip ?_
    refine WP.seq ?_
    refine WP.block ?_
    refine WP.seq ?_
    refine WP.region ?_
    obtain ⟨_, _, e1, hgc⟩ := onesOwn H 0 rfl q (by omega)
    cases e1
    refine OPS.val rfl rfl rfl (Ev.mvI rfl) ?_
    refine OPS.val rfl rfl rfl ((by exact Ev.indexAddr1 (el_run rfl) (size_run rfl) rfl rfl rfl (by omega))) ?_
    refine OPS.val rfl rfl rfl (Ev.load1 (agg_run rfl) rfl (by assumption)) ?_
    refine OPS.val rfl rfl rfl (Ev.asI rfl) ?_
    refine OPS.val rfl rfl rfl (Ev.asI rfl) ?_
    refine OPS.nil ?_
    refine WP.seq ?_
    refine WP.region ?_
    refine OPS.val rfl rfl rfl (Ev.mvI rfl) ?_
    refine OPS.val rfl rfl rfl (Ev.mvI rfl) ?_
    refine OPS.val rfl rfl rfl (Ev.neq rfl rfl) ?_
    refine OPS.val rfl rfl rfl (Ev.mvB rfl) ?_
    refine OPS.gval rfl rfl rfl rfl rfl (fun hg => Ev.mvI (by rfl)) ?_
    refine OPS.gval rfl rfl rfl rfl rfl (fun hg => Ev.mvI (by rfl)) ?_
    refine OPS.gval rfl rfl rfl rfl rfl (fun hg => Ev.neq (by exact gvE hg rfl) (by exact gvE hg rfl)) ?_
    refine OPS.val rfl rfl rfl ((by exact Ev.pickAnd rfl rfl rfl)) ?_
    refine OPS.val rfl rfl rfl (Ev.mvB rfl) ?_
    refine OPS.gval rfl rfl rfl rfl rfl (fun hg => Ev.mvI (by rfl)) ?_
    refine OPS.gval rfl rfl rfl rfl rfl (fun hg => Ev.neq (by exact gvE hg rfl) (by rfl)) ?_
    refine OPS.val rfl rfl rfl ((by exact Ev.pickAnd rfl rfl rfl)) ?_
    refine OPS.nil ?_
    refine WP.cond rfl (fun hc15 => ?_) (fun hc15 => ?_)
    · refine WP.seq ?_
      refine WP.region ?_
      refine OPS.val rfl rfl rfl (Ev.asB rfl) ?_
      refine OPS.nil ?_
      refine WP.ret ⟨_, rfl, ?_⟩
      refine ⟨false, rfl, ⟨(fun h => by cases h), fun h => ?_⟩, H.below⟩
      simp only [Bool.and_eq_true, Bool.not_eq_true', decide_eq_false_iff_not] at hc15
      have := h.flow.cons q (by omega) (by simpa using hqm) hc15.1.1 hc15.1.2
      exact absurd (by omega) hc15.2
    refine WP.skip ?_
    refine WP.region ?_
    refine OPS.val rfl rfl rfl (Ev.add rfl rfl (by unfold fits; omega)) ?_
    refine OPS.val rfl rfl rfl (Ev.mvI rfl) ?_
    refine OPS.nil ?_
    refine ⟨(by repeat (first | exact Agree.refl _ _ | exact Agree.mix _ _ _ | refine Agree.upd rfl ?_ | refine Agree.mix2 rfl ?_)), k - 1, by omega, q + 1, by omega, rfl, H, fun v hv h1 h2 => ?_⟩
    rcases Nat.lt_succ_iff_lt_or_eq.1 hv with h | rfl
    · exact hzv v h h1 h2
    · have n1 : ¬ ((v : Int) = s) := by omega
      have n2 : ¬ ((v : Int) = d) := by omega
      simp [n1, n2] at hc15
      omega
  have hqm : q = m := by simp at hc13; omega
  have hgs := hgv s hE.s1
  have hs1 := hE.s1
  have hgs2 : gain.getD s 0 = gain[s]'(by omega) := by simp [hgl, hs1]
  have hgb := hG.bd s hs1
  rw [hgs2] at hgs hgb
  refine WP.exit ?_
  refine XB.hit ?_
  refine WP.seq ?_
  refine WP.rquiet mixed (by kernel_rfl) H ?_
  clear H; intro w hbw18 H
  obtain ⟨_, _, e1, hgc⟩ := onesOwn H 0 rfl s (by omega)
  cases e1
  refine OPS.val rfl rfl rfl (Ev.mvS rfl) ?_
  refine OPS.val rfl rfl rfl (Ev.mvI rfl) ?_
  refine OPS.val rfl rfl rfl ((by exact Ev.indexAddr1 (el_run rfl) (size_run rfl) rfl rfl rfl (by omega))) ?_
  refine OPS.val rfl rfl rfl (Ev.load1 (agg_run rfl) rfl (by assumption)) ?_
  refine OPS.val rfl rfl rfl (Ev.neg rfl (by unfold fits; omega)) ?_
  refine OPS.val rfl rfl rfl (Ev.fieldAddr (fld_run rfl) rfl) ?_
  refine OPS.val rfl rfl rfl (Ev.load1 (agg_run rfl) rfl (by exact H.ldL 1 rfl _ rfl)) ?_
  refine OPS.val rfl rfl rfl (Ev.eql rfl rfl) ?_
  refine OPS.val rfl rfl rfl (Ev.mvB rfl) ?_
  refine OPS.gval rfl rfl rfl rfl rfl (fun hg => (by exact Ev.loadO 2 H rfl (agg_run rfl) (size_run rfl) (by rfl) rfl)) ?_
  refine OPS.gval rfl rfl rfl rfl rfl (fun hg => Ev.fieldAddr (fld_run rfl) (by rfl)) ?_
  refine OPS.gval rfl rfl rfl rfl rfl (fun hg => Ev.load1 (agg_run rfl) (by exact gvE hg rfl) (by exact H.ldL 1 rfl _ rfl)) ?_
  refine OPS.gcallq2 (f := 37) (fun hg w2 hb2 => flowPrice m A B l on cap cap2 w2 hN hV ((hz.sh H).below hb2) ((ho.sh H).below hb2)) rfl rfl rfl rfl rfl (fun hg => EvC.conv (EvC.func (fun_run rfl)) (l2 (by exact gvE hg rfl) (by exact gvE hg rfl))) ?_
  refine OPS.gval rfl rfl rfl rfl rfl (fun hg => Ev.fieldAddr (fld_run rfl) (by rfl)) ?_
  refine OPS.gval rfl rfl rfl rfl rfl (fun hg => Ev.load1 (agg_run rfl) (by exact gvE hg rfl) (by exact H.ldL 1 rfl _ rfl)) ?_
  refine OPS.gval rfl rfl rfl rfl rfl (fun hg => Ev.eql (by exact gvE hg rfl) (by exact gvE hg rfl)) ?_
  refine OPS.val rfl rfl rfl ((by exact Ev.pickAnd rfl rfl rfl)) ?_
  refine OPS.val rfl rfl rfl (Ev.asB rfl) ?_
  refine OPS.nilq H ?_
  clear H; intro w hbx18 H
  refine WP.ret ⟨_, rfl, ?_⟩
  refine ⟨_, rfl, ?_, H.below⟩
  rw [Bool.and_eq_true, decide_eq_true_eq, decide_eq_true_eq]
  constructor
  · rintro ⟨q1, q2⟩
    exact ⟨h0, by omega, ⟨hV, fun v v0 v1 v2 v3 => by
      obtain ⟨v, rfl⟩ := Int.eq_ofNat_of_zero_le v0
      exact hzv v (by simp at v1; omega) (by omega) (by omega), by omega⟩, q2⟩
  · rintro ⟨_, _, q3, q4⟩
    have := q3.amt
    exact ⟨by omega, q4⟩
end Go.Proofs.Ythegjmgljolalaa
