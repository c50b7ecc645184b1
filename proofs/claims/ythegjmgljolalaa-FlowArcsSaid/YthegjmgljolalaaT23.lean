/-
  Walks: the reference's Valid, Proved.
-/
import Derived.Test.YthegjmgljolalaaT18
import Derived.Test.YthegjmgljolalaaT17
set_option linter.all false
namespace Go.Proofs.Ythegjmgljolalaa
open Go Go.W Go.RowKit

/-- what has left each node, by the first j arcs -/
structure MoreI (m : Nat) (l : List Arc) (on : List Int) (j : Nat) (more : List Int) : Prop where
  len : more.length = m
  at_ : ∀ v : Nat, v < m → more.getD v 0 = netOut (ind v) (l.take j) (on.take j)
  bd : ∀ v : Nat, v < m → -65536 * (j : Int) ≤ more.getD v 0 ∧ more.getD v 0 ≤ 65536 * (j : Int)
theorem MoreI.step {m : Nat} {l : List Arc} {on : List Int} {j : Nat} {more : List Int} (h : MoreI m l on j more) (hj : j < l.length) (hj2 : j < on.length) {a b : Nat} (ha : l[j].f = a) (hb : l[j].t = b) (ham : a < m) (hbm : b < m) (hx : 0 ≤ on[j] ∧ on[j] ≤ 65536) :
    MoreI m l on (j + 1) ((more.set a (more.getD a 0 + on[j])).set b ((more.set a (more.getD a 0 + on[j])).getD b 0 - on[j])) := by
  have hl := h.len
  have hal : a < more.length := by omega
  have hbl : b < (more.set a (more.getD a 0 + on[j])).length := by rw [List.length_set]; omega
  have hv : ∀ v : Nat, v < m → ((more.set a (more.getD a 0 + on[j])).set b ((more.set a (more.getD a 0 + on[j])).getD b 0 - on[j])).getD v 0 = more.getD v 0 + on[j] * (ind v a - ind v b) := fun v _ => by
    rw [getD_setI hbl, getD_setI hal, getD_setI hal, ind_nat, ind_nat]
    by_cases h1 : b = v <;> by_cases h2 : a = v
    · subst h1; subst h2; simp only [if_true]; omega
    · subst h1; simp only [if_neg h2, if_true]; omega
    · subst h2; simp only [if_neg h1, if_true]; omega
    · simp only [if_neg h1, if_neg h2]; omega
  refine ⟨by simp [hl], fun v hvm => ?_, fun v hvm => ?_⟩
  · rw [hv v hvm, h.at_ v hvm, netOut_take _ l on j hj hj2, ha, hb]
  · rw [hv v hvm]
    have := h.bd v hvm
    rw [ind_nat, ind_nat]
    generalize more.getD v 0 = G at *
    split <;> split <;> omega

set_option maxHeartbeats 1000000 in
theorem refValid (n f t amt cost : Int) (A B Bp : Option Addr) (l : List Arc) (on : List Int) (cap cap2 np cap3 : Nat) (w0 : World) (hz : ArcsAt w0 A l) (ho : IntsAt w0 B on) :
    Calls Try.prog 24 #[.agg #[I n, .slice A l.length cap], I f, I t, .agg #[I amt, I cost, .slice B on.length cap2, .slice Bp np cap3]] w0 fun e w' => ∃ b : Bool, e = .returned (.bool b) ∧ (b = true ↔ ValidP n f t l amt cost on) ∧ Below w0.heap.size w0 w' := by
  have H := SH.refl w0
  refine Calls.ofWP Try.func24 rfl Try.results24 Try.ntmps24 rfl ?_
  refine WP.seq ?_
  refine WP.region ?_
  refine OPS.box rfl rfl rfl rfl (cA rfl) H ?_
  clear H; intro g4 w H
  refine OPS.box rfl rfl rfl rfl (cA rfl) H ?_
  clear H; intro g7 w H
  refine OPS.val rfl rfl rfl (Ev.asB rfl) ?_
  refine OPS.nil ?_
  refine WP.seq ?_
  refine WP.seq ?_
  refine WP.region ?_
  refine OPS.val rfl rfl rfl ((by exact Ev.loadO 1 H rfl (agg_run rfl) (size_run rfl) (by rfl) rfl)) ?_
  refine OPS.val rfl rfl rfl (Ev.mvI rfl) ?_
  refine OPS.val rfl rfl rfl (Ev.mvI rfl) ?_
  refine OPS.call (d := some 17) rfl rfl rfl (EvC.func (fun_run rfl)) (refEnds n f t A l cap w (hz.sh H)) ?_
  rintro _ w ⟨rfl, hb⟩
  refine ⟨_, rfl, ?_⟩
  replace H := H.toBelow hb; clear hb
  refine OPS.val rfl rfl rfl (Ev.neq rfl rfl) ?_
  refine OPS.val rfl rfl rfl (Ev.mvB rfl) ?_
  refine OPS.gval rfl rfl rfl rfl rfl (fun hg => Ev.fieldAddr (fld_run rfl) (by rfl)) ?_
  refine OPS.gval rfl rfl rfl rfl rfl (fun hg => Ev.load1 (agg_run rfl) (by exact gvE hg rfl) (by exact H.ldL 0 rfl _ rfl)) ?_
  refine OPS.gval rfl rfl rfl rfl rfl (fun hg => Ev.len (el_run rfl) (by exact gvE hg rfl)) ?_
  refine OPS.gval rfl rfl rfl rfl rfl (fun hg => Ev.fieldAddr (fld_run rfl) (by rfl)) ?_
  refine OPS.gval rfl rfl rfl rfl rfl (fun hg => Ev.load1 (agg_run rfl) (by exact gvE hg rfl) (by exact H.ldL 1 rfl _ rfl)) ?_
  refine OPS.gval rfl rfl rfl rfl rfl (fun hg => Ev.len (el_run rfl) (by exact gvE hg rfl)) ?_
  refine OPS.gval rfl rfl rfl rfl rfl (fun hg => Ev.neq (by exact gvE hg rfl) (by exact gvE hg rfl)) ?_
  refine OPS.val rfl rfl rfl ((by exact Ev.pickOr rfl rfl rfl)) ?_
  refine OPS.val rfl rfl rfl (Ev.mvB rfl) ?_
  refine OPS.gval rfl rfl rfl rfl rfl (fun hg => Ev.fieldAddr (fld_run rfl) (by rfl)) ?_
  refine OPS.gval rfl rfl rfl rfl rfl (fun hg => Ev.load1 (agg_run rfl) (by exact gvE hg rfl) (by exact H.ldL 0 rfl _ rfl)) ?_
  refine OPS.gval rfl rfl rfl rfl rfl (fun hg => Ev.lss (by exact gvE hg rfl) (by rfl)) ?_
  refine OPS.val rfl rfl rfl ((by exact Ev.pickOr rfl rfl rfl)) ?_
  refine OPS.nil ?_
  refine WP.cond rfl (fun hc1 => ?_) (fun hc1 => ?_)
  · have hno : ¬ ValidP n f t l amt cost on := by
      rintro ⟨q1, q2, q3, q4⟩
      have q5 := q3.v.len
      simp [q1, q5] at hc1; omega
    refine WP.seq ?_
    refine WP.region ?_
    refine OPS.val rfl rfl rfl (Ev.asB rfl) ?_
    refine OPS.nil ?_
    refine WP.ret ⟨_, rfl, ?_⟩
    exact ⟨false, rfl, ⟨(fun h => by cases h), fun h => absurd h hno⟩, H.below⟩
  simp only [Bool.or_eq_false_iff, Bool.not_eq_false', decide_eq_true_eq, decide_eq_false_iff_not] at hc1
  obtain ⟨⟨h0, hol⟩, ha0⟩ := hc1
  have hol : on.length = l.length := by omega
  obtain ⟨m, s, d, hE⟩ := endsOk_of h0
  have e1 := hE.hn
  have e2 := hE.hf
  have e3 := hE.ht
  subst e1 e2 e3
  have hN := hE.net
  have hn2 := hN.n2
  have hll := hN.len
  refine WP.skip ?_
  refine WP.seq ?_
  refine WP.region ?_
  refine OPS.val rfl rfl rfl (Ev.fieldAddr (fld_run rfl) rfl) ?_
  refine OPS.val rfl rfl rfl (Ev.load1 (agg_run rfl) rfl (by exact H.ldL 1 rfl _ rfl)) ?_
  refine OPS.makeSlice rfl rfl rfl rfl (sl_run rfl) rfl rfl rfl (by omega) (by omega) H ?_
  clear H; intro g35 w H
  refine OPS.val rfl rfl rfl (Ev.asS rfl) ?_
  refine OPS.nil ?_
  refine WP.seq ?_
  refine WP.region ?_
  refine OPS.val rfl rfl rfl (Ev.asI rfl) ?_
  refine OPS.nil ?_
  refine WP.seq ?_
  refine WP.seq ?_
  refine WP.region ?_
  refine OPS.val rfl rfl rfl (Ev.asI rfl) ?_
  refine OPS.nil ?_
  refine WP.block ?_
  refine WP.loop [8, 10, 11, 12, 36, 37, 38, 39, 40, 41, 42, 43, 44, 45, 46, 47, 48, 49, 50, 51, 52, 53, 54, 55, 56, 57, 58, 59, 60, 61, 62, 63, 64, 65, 66, 67, 68, 69, 70, 71, 72, 73, 74, 75, 76, 77, 78, 79, 80, 81, 82, 83, 84, 85, 86, 87, 88, 89, 90, 91, 92, 93, 94, 95, 96, 97, 98, 99, 100, 101, 102, 103] (fun k e w' => ∃ (j : Nat) (more : List Int), j + k = l.length ∧ e 11 = I j ∧ e 10 = I (costOf (l.take j) (on.take j)) ∧ SH w0 [] w' [⟨g35, 3, more.map I⟩, ⟨g7, 38, [I amt, I cost, .slice B on.length cap2, .slice Bp np cap3]⟩, ⟨g4, 24, [I m, .slice A l.length cap]⟩] ∧ MoreI m l on j more ∧ (∀ i (h : i < l.length), i < j → 0 ≤ on[i] ∧ on[i] ≤ l[i].cap) ∧ 0 ≤ costOf (l.take j) (on.take j) ∧ costOf (l.take j) (on.take j) ≤ 4294967296 * j) (l.length) (⟨0, List.replicate m 0, by omega, rfl, rfl, by rw [← mkL_ones]; exact H, ⟨by simp, fun v hv => by simp [hv, netOut], fun v hv => by simp [hv]⟩, fun i _ h => absurd h (by omega), by simp [costOf], by simp [costOf]⟩) ?_
  clear H
  rintro k u w ⟨j, more, hk, h11, h10, H, hG, hall, hcb1, hcb2⟩
  refine WP.know (t := 11) h11 (WP.know (t := 10) h10 ?_)
  refine WP.seq ?_
  refine WP.seq ?_
  refine WP.region ?_
  refine OPS.val rfl rfl rfl (Ev.mvI rfl) ?_
  refine OPS.val rfl rfl rfl (Ev.fieldAddr (fld_run rfl) rfl) ?_
  refine OPS.val rfl rfl rfl (Ev.load1 (agg_run rfl) rfl (by exact H.ldL 2 rfl _ rfl)) ?_
  refine OPS.val rfl rfl rfl (Ev.len (el_run rfl) rfl) ?_
  refine OPS.val rfl rfl rfl (Ev.lss rfl rfl) ?_
  refine OPS.nil ?_
  refine WP.cond rfl (fun hc6 => ?_) (fun hc6 => ?_)
  · have hlt : j < l.length := by simp at hc6; omega
    have hlt2 : j < on.length := by omega
    obtain ⟨b, o, rfl, hc⟩ := hz j hlt
    obtain ⟨b2, o2, rfl, hx⟩ := ho j hlt2
    have hc' := cellsAt_sh H hc
    have h1 := hN.nodes l[j] (List.getElem_mem _)
    have h2 := hN.caps l[j] (List.getElem_mem _)
    obtain ⟨a, hfa⟩ := Int.eq_ofNat_of_zero_le h1.1.1
    obtain ⟨b', htb⟩ := Int.eq_ofNat_of_zero_le h1.2.1
    have ham : a < m := by omega
    have hbm : b' < m := by omega
    have hgl := hG.len
    refine WP.skip ?_
    refine WP.seq ?_
    refine WP.block ?_
    refine WP.seq ?_
    refine WP.region ?_
    refine OPS.val rfl rfl rfl (Ev.fieldAddr (fld_run rfl) rfl) ?_
    refine OPS.val rfl rfl rfl (Ev.load1 (agg_run rfl) rfl (by exact H.ldL 2 rfl _ rfl)) ?_
    refine OPS.val rfl rfl rfl (Ev.mvI rfl) ?_
    refine OPS.val rfl rfl rfl ((by exact Ev.indexAddr (el_run rfl) (size_run rfl) rfl rfl rfl (by omega))) ?_
    refine OPS.val rfl rfl rfl ((by (change Ev _ _ _ _ (Op.load 46 (Operand.tmp 46)) _; exact Ev.loadN (arcCells l[j]) (agg_run rfl) (size_run rfl) rfl hc'))) ?_
    refine OPS.alloc rfl rfl rfl rfl (zero_run rfl) rfl H ?_
    clear H; intro g12 w H
    refine OPS.store 0 _ rfl rfl rfl (size_run rfl) rfl (cA rfl) rfl rfl H rfl (by simp) ?_
    clear H; intro w H; try simp only [List.set_cons_zero, List.set_cons_succ, putL, Nat.zero_add] at H
    refine OPS.nil ?_
    refine WP.seq ?_
    refine WP.seq ?_
    refine WP.rstill mixed (by kernel_rfl) H ?_
    clear H; intro w hbw9 H
    refine OPS.val rfl rfl rfl (Ev.fieldAddr (fld_run rfl) rfl) ?_
    refine OPS.val rfl rfl rfl (Ev.load1 (agg_run rfl) rfl (by exact H.ldL 2 rfl _ rfl)) ?_
    refine OPS.val rfl rfl rfl (Ev.mvI rfl) ?_
    refine OPS.val rfl rfl rfl ((by exact Ev.indexAddr1 (el_run rfl) (size_run rfl) rfl rfl rfl (by omega))) ?_
    refine OPS.val rfl rfl rfl (Ev.load1 (agg_run rfl) rfl (by exact H.ld0 (by assumption))) ?_
    refine OPS.val rfl rfl rfl (Ev.lss rfl rfl) ?_
    refine OPS.val rfl rfl rfl (Ev.mvB rfl) ?_
    refine OPS.gval rfl rfl rfl rfl rfl (fun hg => Ev.fieldAddr (fld_run rfl) (by rfl)) ?_
    refine OPS.gval rfl rfl rfl rfl rfl (fun hg => Ev.load1 (agg_run rfl) (by exact gvE hg rfl) (by exact H.ldL 2 rfl _ rfl)) ?_
    refine OPS.gval rfl rfl rfl rfl rfl (fun hg => Ev.mvI (by rfl)) ?_
    refine OPS.gval rfl rfl rfl rfl rfl (fun hg => (by exact Ev.indexAddr1 (el_run rfl) (size_run rfl) (by exact gvE hg rfl) (by exact gvE hg rfl) rfl (by omega))) ?_
    refine OPS.gval rfl rfl rfl rfl rfl (fun hg => Ev.load1 (agg_run rfl) (by exact gvE hg rfl) (by exact H.ld0 (by assumption))) ?_
    refine OPS.gval rfl rfl rfl rfl rfl (fun hg => Ev.fieldAddr (fld_run rfl) (by rfl)) ?_
    refine OPS.gval rfl rfl rfl rfl rfl (fun hg => Ev.load1 (agg_run rfl) (by exact gvE hg rfl) (by exact H.ldL 0 rfl _ rfl)) ?_
    refine OPS.gval rfl rfl rfl rfl rfl (fun hg => Ev.gtr (by exact gvE hg rfl) (by exact gvE hg rfl)) ?_
    refine OPS.val rfl rfl rfl ((by exact Ev.pickOr rfl rfl rfl)) ?_
    refine OPS.nil_s ?_
    refine WP.cond rfl (fun hc9 => ?_) (fun hc9 => ?_)
    · have hno : ¬ ValidP m s d l amt cost on := by
        rintro ⟨q1, q2, q3, q4⟩
        have := q3.v.bd j hlt hlt2
        simp at hc9; omega
      refine WP.seq ?_
      refine WP.region ?_
      refine OPS.val rfl rfl rfl (Ev.asB rfl) ?_
      refine OPS.nil ?_
      refine WP.ret ⟨_, rfl, ?_⟩
      exact ⟨false, rfl, ⟨(fun h => by cases h), fun h => absurd h hno⟩, H.below⟩
    have hxj : 0 ≤ on[j] ∧ on[j] ≤ l[j].cap := by simp at hc9; omega
    have hxj2 : 0 ≤ on[j] ∧ on[j] ≤ 65536 := by omega
    have hG2 := hG.step hlt hlt2 hfa htb ham hbm hxj2
    have hga : more.getD a 0 = more[a]'(by omega) := by simp [hgl, ham]
    have hgb := hG.bd a ham
    rw [hga] at hG2 hgb
    have hgl1 : (more.set a (more[a] + on[j])).length = m := by simp [hgl]
    have hg1 : (more.set a (more[a] + on[j])).getD b' 0 = (more.set a (more[a] + on[j]))[b']'(by omega) := by simp [hgl, hbm]
    have hg1b : -200000000 ≤ (more.set a (more[a] + on[j]))[b']'(by omega) ∧ (more.set a (more[a] + on[j]))[b']'(by omega) ≤ 200000000 := by
      rw [← hg1, getD_setI (by omega)]
      have := hG.bd b' hbm
      split <;> omega
    rw [hg1] at hG2
    have hmb := mul_bd hxj2.1 hxj2.2 h2.2.1 h2.2.2
    refine WP.skip ?_
    refine WP.seq ?_
    rw [show arcCells l[j] = [I a, I b', I l[j].cap, I l[j].cost] from by unfold arcCells; rw [hfa, htb]] at H
    refine WP.rtail 15 mixed (by kernel_rfl) H ?_
    clear H; intro w hbw11 H
    obtain ⟨_, _, e1, hgc⟩ := onesOwn H 1 rfl a (by omega)
    cases e1
    refine OPS.val rfl rfl rfl (Ev.mvS rfl) ?_
    refine OPS.val rfl rfl rfl (Ev.fieldAddr (fld_run rfl) rfl) ?_
    refine OPS.val rfl rfl rfl (Ev.load1 (agg_run rfl) rfl (by exact H.ldL 0 rfl _ rfl)) ?_
    refine OPS.val rfl rfl rfl (Ev.mvS rfl) ?_
    refine OPS.val rfl rfl rfl (Ev.fieldAddr (fld_run rfl) rfl) ?_
    refine OPS.val rfl rfl rfl (Ev.load1 (agg_run rfl) rfl (by exact H.ldL 0 rfl _ rfl)) ?_
    refine OPS.val rfl rfl rfl ((by exact Ev.indexAddr1 (el_run rfl) (size_run rfl) rfl rfl rfl (by omega))) ?_
    refine OPS.val rfl rfl rfl (Ev.load1 (agg_run rfl) rfl (by assumption)) ?_
    refine OPS.val rfl rfl rfl (Ev.fieldAddr (fld_run rfl) rfl) ?_
    refine OPS.val rfl rfl rfl (Ev.load1 (agg_run rfl) rfl (by exact H.ldL 2 rfl _ rfl)) ?_
    refine OPS.val rfl rfl rfl (Ev.mvI rfl) ?_
    refine OPS.val rfl rfl rfl ((by exact Ev.indexAddr1 (el_run rfl) (size_run rfl) rfl rfl rfl (by omega))) ?_
    refine OPS.val rfl rfl rfl (Ev.load1 (agg_run rfl) rfl (by exact H.ld0 (by assumption))) ?_
    refine OPS.val rfl rfl rfl (Ev.add rfl rfl (by unfold fits; omega)) ?_
    refine OPS.val rfl rfl rfl ((by exact Ev.indexAddr1 (el_run rfl) (size_run rfl) rfl rfl rfl (by omega))) ?_
    refine OPS.nil_s ?_
    have hpu : putL (more.map I) (0 + a) [I (more[a] + on[j])] = (more.set a (more[a] + on[j])).map I := by rw [Nat.zero_add, putL_ones]
    refine OPS.store (vs := [I (more[a] + on[j])]) 1 _ rfl rfl rfl (size_run rfl) rfl (cI rfl) rfl rfl H rfl (by simp only [List.length_map]; omega) ?_
    clear H; intro w H
    simp only [List.set_cons_zero, List.set_cons_succ] at H
    rw [hpu] at H
    refine OPS.nil ?_
    refine WP.seq ?_
    refine WP.rtail 15 mixed (by kernel_rfl) H ?_
    clear H; intro w hbw12 H
    obtain ⟨_, _, e1, hgc⟩ := onesOwn H 1 rfl b' (by omega)
    cases e1
    refine OPS.val rfl rfl rfl (Ev.mvS rfl) ?_
    refine OPS.val rfl rfl rfl (Ev.fieldAddr (fld_run rfl) rfl) ?_
    refine OPS.val rfl rfl rfl (Ev.load1 (agg_run rfl) rfl (by exact H.ldL 0 rfl _ rfl)) ?_
    refine OPS.val rfl rfl rfl (Ev.mvS rfl) ?_
    refine OPS.val rfl rfl rfl (Ev.fieldAddr (fld_run rfl) rfl) ?_
    refine OPS.val rfl rfl rfl (Ev.load1 (agg_run rfl) rfl (by exact H.ldL 0 rfl _ rfl)) ?_
    refine OPS.val rfl rfl rfl ((by exact Ev.indexAddr1 (el_run rfl) (size_run rfl) rfl rfl rfl (by omega))) ?_
    refine OPS.val rfl rfl rfl (Ev.load1 (agg_run rfl) rfl (by assumption)) ?_
    refine OPS.val rfl rfl rfl (Ev.fieldAddr (fld_run rfl) rfl) ?_
    refine OPS.val rfl rfl rfl (Ev.load1 (agg_run rfl) rfl (by exact H.ldL 2 rfl _ rfl)) ?_
    refine OPS.val rfl rfl rfl (Ev.mvI rfl) ?_
    refine OPS.val rfl rfl rfl ((by exact Ev.indexAddr1 (el_run rfl) (size_run rfl) rfl rfl rfl (by omega))) ?_
    refine OPS.val rfl rfl rfl (Ev.load1 (agg_run rfl) rfl (by exact H.ld0 (by assumption))) ?_
    refine OPS.val rfl rfl rfl (Ev.sub rfl rfl (by unfold fits; omega)) ?_
    refine OPS.val rfl rfl rfl ((by exact Ev.indexAddr1 (el_run rfl) (size_run rfl) rfl rfl rfl (by omega))) ?_
    refine OPS.nil_s ?_
    have hpu : putL ((more.set a (more[a] + on[j])).map I) (0 + b') [I ((more.set a (more[a] + on[j]))[b'] - on[j])] = ((more.set a (more[a] + on[j])).set b' ((more.set a (more[a] + on[j]))[b'] - on[j])).map I := by rw [Nat.zero_add, putL_ones]
    refine OPS.store (vs := [I ((more.set a (more[a] + on[j]))[b'] - on[j])]) 1 _ rfl rfl rfl (size_run rfl) rfl (cI rfl) rfl rfl H rfl (by simp only [List.length_map]; omega) ?_
    clear H; intro w H
    simp only [List.set_cons_zero, List.set_cons_succ] at H
    rw [hpu] at H
    refine OPS.nil ?_
    refine WP.rstill mixed (by kernel_rfl) H ?_
    clear H; intro w hbw13 H
    refine OPS.val rfl rfl rfl (Ev.mvI rfl) ?_
    refine OPS.val rfl rfl rfl (Ev.fieldAddr (fld_run rfl) rfl) ?_
    refine OPS.val rfl rfl rfl (Ev.load1 (agg_run rfl) rfl (by exact H.ldL 2 rfl _ rfl)) ?_
    refine OPS.val rfl rfl rfl (Ev.mvI rfl) ?_
    refine OPS.val rfl rfl rfl ((by exact Ev.indexAddr1 (el_run rfl) (size_run rfl) rfl rfl rfl (by omega))) ?_
    refine OPS.val rfl rfl rfl (Ev.load1 (agg_run rfl) rfl (by exact H.ld0 (by assumption))) ?_
    refine OPS.val rfl rfl rfl (Ev.fieldAddr (fld_run rfl) rfl) ?_
    refine OPS.val rfl rfl rfl (Ev.load1 (agg_run rfl) rfl (by exact H.ldL 0 rfl _ rfl)) ?_
    refine OPS.val rfl rfl rfl (Ev.mul rfl rfl (by unfold fits; omega)) ?_
    refine OPS.val rfl rfl rfl (Ev.add rfl rfl (by unfold fits; omega)) ?_
    refine OPS.val rfl rfl rfl (Ev.asI rfl) ?_
    refine OPS.nil_s ?_
    refine WP.region ?_
    refine OPS.val rfl rfl rfl (Ev.mvI rfl) ?_
    refine OPS.val rfl rfl rfl (Ev.add rfl rfl (by unfold fits; omega)) ?_
    refine OPS.val rfl rfl rfl (Ev.asI rfl) ?_
    refine OPS.nil ?_
    refine ⟨(by repeat (first | exact Agree.refl _ _ | exact Agree.mix _ _ _ | refine Agree.upd rfl ?_ | refine Agree.mix2 rfl ?_)), k - 1, by omega, j + 1, _, by omega, rfl, by rw [costOf_take l on j hlt hlt2]; rfl, H.drop (List.sublist_cons_self _ _), hG2, fun i hi hij => ?_, by rw [costOf_take l on j hlt hlt2]; omega, by rw [costOf_take l on j hlt hlt2]; omega⟩
    rcases Nat.lt_succ_iff_lt_or_eq.1 hij with h | rfl
    · exact hall i hi h
    · exact hxj
  have hjl : j = l.length := by simp at hc6; omega
  have hgl := hG.len
  have hV : VFlow l on := ⟨hol, fun i h h2 => hall i h (by omega)⟩
  have hgv : ∀ v : Nat, v < m → more.getD v 0 = netOut (ind v) l on := fun v hv => by
    have := hG.at_ v hv
    rw [hjl, List.take_length, ← hol, List.take_length] at this; exact this
  have hcc : costOf (l.take j) (on.take j) = costOf l on := by rw [hjl, List.take_length, ← hol, List.take_length]
  refine WP.exit ?_
  refine XB.hit ?_
  refine WP.seq ?_
  refine WP.seq ?_
  refine WP.region ?_
  refine OPS.val rfl rfl rfl (Ev.asI rfl) ?_
  refine OPS.nil ?_
  refine WP.block ?_
  refine WP.loop [8, 13, 104, 105, 106, 107, 108, 109, 110, 111, 112, 113, 114, 115, 116, 117, 118, 119, 120, 121, 122, 123, 124] (fun k e w' => ∃ q : Nat, q + k = m ∧ e 13 = I q ∧ SH w0 [] w' [⟨g35, 3, more.map I⟩, ⟨g7, 38, [I amt, I cost, .slice B on.length cap2, .slice Bp np cap3]⟩, ⟨g4, 24, [I m, .slice A l.length cap]⟩] ∧ ∀ v : Nat, v < q → v ≠ s → v ≠ d → netOut (ind v) l on = 0) (m) (⟨0, by omega, rfl, H, fun v hv => absurd hv (by omega)⟩) ?_
  clear H
  rintro k u w ⟨q, hq, h13, H, hzv⟩
  refine WP.know (t := 13) h13 ?_
  refine WP.seq ?_
  refine WP.seq ?_
  refine WP.region ?_
  refine OPS.val rfl rfl rfl (Ev.mvI rfl) ?_
  refine OPS.val rfl rfl rfl (Ev.fieldAddr (fld_run rfl) rfl) ?_
  refine OPS.val rfl rfl rfl (Ev.load1 (agg_run rfl) rfl (by exact H.ldL 2 rfl _ rfl)) ?_
  refine OPS.val rfl rfl rfl (Ev.lss rfl rfl) ?_
  refine OPS.nil ?_
  refine WP.cond rfl (fun hc15 => ?_) (fun hc15 => ?_)
  · have hqm : q < m := by simp at hc15; omega
    have hgq := hgv q hqm
    have hgq2 : more.getD q 0 = more[q]'(by omega) := by simp [hgl, hqm]
    rw [hgq2] at hgq
    refine WP.skip ?_
    refine WP.seq ?_
    refine WP.block ?_
    refine WP.seq ?_
    refine WP.region ?_
    obtain ⟨_, _, e1, hgc⟩ := onesOwn H 0 rfl q (by omega)
    cases e1
    refine OPS.val rfl rfl rfl (Ev.mvI rfl) ?_
    refine OPS.val rfl rfl rfl (Ev.mvI rfl) ?_
    refine OPS.val rfl rfl rfl (Ev.neq rfl rfl) ?_
    refine OPS.val rfl rfl rfl (Ev.mvB rfl) ?_
    refine OPS.gval rfl rfl rfl rfl rfl (fun hg => Ev.mvI (by rfl)) ?_
    refine OPS.gval rfl rfl rfl rfl rfl (fun hg => Ev.mvI (by rfl)) ?_
    refine OPS.gval rfl rfl rfl rfl rfl (fun hg => Ev.neq (by exact gvE hg rfl) (by exact gvE hg rfl)) ?_
    refine OPS.val rfl rfl rfl ((by exact Ev.pickAnd rfl rfl rfl)) ?_
    refine OPS.val rfl rfl rfl (Ev.mvB rfl) ?_
    refine OPS.gval rfl rfl rfl rfl rfl (fun hg => Ev.mvS (by rfl)) ?_
    refine OPS.gval rfl rfl rfl rfl rfl (fun hg => Ev.mvI (by rfl)) ?_
    refine OPS.gval rfl rfl rfl rfl rfl (fun hg => (by exact Ev.indexAddr1 (el_run rfl) (size_run rfl) (by exact gvE hg rfl) (by exact gvE hg rfl) rfl (by omega))) ?_
    refine OPS.gval rfl rfl rfl rfl rfl (fun hg => Ev.load1 (agg_run rfl) (by exact gvE hg rfl) (by assumption)) ?_
    refine OPS.gval rfl rfl rfl rfl rfl (fun hg => Ev.neq (by exact gvE hg rfl) (by rfl)) ?_
    refine OPS.val rfl rfl rfl ((by exact Ev.pickAnd rfl rfl rfl)) ?_
    refine OPS.nil ?_
    refine WP.cond rfl (fun hc17 => ?_) (fun hc17 => ?_)
    · refine WP.seq ?_
      refine WP.region ?_
      refine OPS.val rfl rfl rfl (Ev.asB rfl) ?_
      refine OPS.nil ?_
      refine WP.ret ⟨_, rfl, ?_⟩
      refine ⟨false, rfl, ⟨(fun h => by cases h), fun h => ?_⟩, H.below⟩
      simp only [Bool.and_eq_true, Bool.not_eq_true', decide_eq_false_iff_not] at hc17
      have := h.flow.cons q (by omega) (by simpa using hqm) hc17.1.1 hc17.1.2
      exact absurd (by omega) hc17.2
    refine WP.skip ?_
    refine WP.region ?_
    refine OPS.val rfl rfl rfl (Ev.mvI rfl) ?_
    refine OPS.val rfl rfl rfl (Ev.add rfl rfl (by unfold fits; omega)) ?_
    refine OPS.val rfl rfl rfl (Ev.asI rfl) ?_
    refine OPS.nil ?_
    refine ⟨(by repeat (first | exact Agree.refl _ _ | exact Agree.mix _ _ _ | refine Agree.upd rfl ?_ | refine Agree.mix2 rfl ?_)), k - 1, by omega, q + 1, by omega, rfl, H, fun v hv h1 h2 => ?_⟩
    rcases Nat.lt_succ_iff_lt_or_eq.1 hv with h | rfl
    · exact hzv v h h1 h2
    · have n1 : ¬ ((v : Int) = s) := by omega
      have n2 : ¬ ((v : Int) = d) := by omega
      simp [n1, n2] at hc17
      omega
  have hqm : q = m := by simp at hc15; omega
  have hgs := hgv s hE.s1
  have hs1 := hE.s1
  have hgs2 : more.getD s 0 = more[s]'(by omega) := by simp [hgl, hs1]
  rw [hgs2] at hgs
  refine WP.exit ?_
  refine XB.hit ?_
  refine WP.seq ?_
  refine WP.rstill mixed (by kernel_rfl) H ?_
  clear H; intro w hbw19 H
  obtain ⟨_, _, e1, hgc⟩ := onesOwn H 0 rfl s (by omega)
  cases e1
  refine OPS.val rfl rfl rfl (Ev.mvS rfl) ?_
  refine OPS.val rfl rfl rfl (Ev.mvI rfl) ?_
  refine OPS.val rfl rfl rfl ((by exact Ev.indexAddr1 (el_run rfl) (size_run rfl) rfl rfl rfl (by omega))) ?_
  refine OPS.val rfl rfl rfl (Ev.load1 (agg_run rfl) rfl (by assumption)) ?_
  refine OPS.val rfl rfl rfl (Ev.fieldAddr (fld_run rfl) rfl) ?_
  refine OPS.val rfl rfl rfl (Ev.load1 (agg_run rfl) rfl (by exact H.ldL 1 rfl _ rfl)) ?_
  refine OPS.val rfl rfl rfl (Ev.eql rfl rfl) ?_
  refine OPS.val rfl rfl rfl (Ev.mvB rfl) ?_
  refine OPS.gval rfl rfl rfl rfl rfl (fun hg => Ev.mvI (by rfl)) ?_
  refine OPS.gval rfl rfl rfl rfl rfl (fun hg => Ev.fieldAddr (fld_run rfl) (by rfl)) ?_
  refine OPS.gval rfl rfl rfl rfl rfl (fun hg => Ev.load1 (agg_run rfl) (by exact gvE hg rfl) (by exact H.ldL 1 rfl _ rfl)) ?_
  refine OPS.gval rfl rfl rfl rfl rfl (fun hg => Ev.eql (by exact gvE hg rfl) (by exact gvE hg rfl)) ?_
  refine OPS.val rfl rfl rfl ((by exact Ev.pickAnd rfl rfl rfl)) ?_
  refine OPS.val rfl rfl rfl (Ev.asB rfl) ?_
  refine OPS.nil_s ?_
  refine WP.ret ⟨_, rfl, ?_⟩
  refine ⟨_, rfl, ?_, H.below⟩
  rw [Bool.and_eq_true, decide_eq_true_eq, decide_eq_true_eq, hcc]
  constructor
  · rintro ⟨q1, q2⟩
    exact ⟨h0, by omega, ⟨hV, fun v v0 v1 v2 v3 => by
      obtain ⟨v, rfl⟩ := Int.eq_ofNat_of_zero_le v0
      exact hzv v (by simp at v1; omega) (by omega) (by omega), by omega⟩, q2⟩
  · rintro ⟨_, _, q3, q4⟩
    have := q3.amt
    exact ⟨by omega, q4⟩

set_option maxHeartbeats 1000000 in
theorem refProved (n f t amt cost : Int) (A B Bp : Option Addr) (l : List Arc) (on pots : List Int) (cap cap2 cap3 : Nat) (w0 : World) (hz : ArcsAt w0 A l) (ho : IntsAt w0 B on) (hp : IntsAt w0 Bp pots) :
    Calls Try.prog 22 #[.agg #[I n, .slice A l.length cap], I f, I t, .agg #[I amt, I cost, .slice B on.length cap2, .slice Bp pots.length cap3]] w0 fun e w' => ∃ b : Bool, e = .returned (.bool b) ∧ (b = true ↔ ProvedP n f t l amt cost on pots) ∧ Below w0.heap.size w0 w' := by
  have H := SH.refl w0
  refine Calls.ofWP Try.func22 rfl Try.results22 Try.ntmps22 rfl ?_
  refine WP.seq ?_
  refine WP.region ?_
  refine OPS.box rfl rfl rfl rfl (cA rfl) H ?_
  clear H; intro g4 w H
  refine OPS.box rfl rfl rfl rfl (cA rfl) H ?_
  clear H; intro g7 w H
  refine OPS.val rfl rfl rfl (Ev.asB rfl) ?_
  refine OPS.nil ?_
  refine WP.seq ?_
  refine WP.seq ?_
  refine WP.region ?_
  refine OPS.val rfl rfl rfl ((by exact Ev.loadO 1 H rfl (agg_run rfl) (size_run rfl) (by rfl) rfl)) ?_
  refine OPS.val rfl rfl rfl (Ev.mvI rfl) ?_
  refine OPS.val rfl rfl rfl (Ev.mvI rfl) ?_
  refine OPS.val rfl rfl rfl ((by exact Ev.loadO 0 H rfl (agg_run rfl) (size_run rfl) (by rfl) rfl)) ?_
  refine OPS.call (d := some 17) rfl rfl rfl (EvC.func (fun_run rfl)) (refValid n f t amt cost A B Bp l on cap cap2 pots.length cap3 w (hz.sh H) (ho.sh H)) ?_
  rintro _ w ⟨vb, rfl, hvb, hb⟩
  refine ⟨_, rfl, ?_⟩
  replace H := H.toBelow hb; clear hb
  refine OPS.val rfl rfl rfl (Ev.not rfl) ?_
  refine OPS.val rfl rfl rfl (Ev.mvB rfl) ?_
  refine OPS.gval rfl rfl rfl rfl rfl (fun hg => Ev.fieldAddr (fld_run rfl) (by rfl)) ?_
  refine OPS.gval rfl rfl rfl rfl rfl (fun hg => Ev.load1 (agg_run rfl) (by exact gvE hg rfl) (by exact H.ldL 0 rfl _ rfl)) ?_
  refine OPS.gval rfl rfl rfl rfl rfl (fun hg => Ev.len (el_run rfl) (by exact gvE hg rfl)) ?_
  refine OPS.gval rfl rfl rfl rfl rfl (fun hg => Ev.fieldAddr (fld_run rfl) (by rfl)) ?_
  refine OPS.gval rfl rfl rfl rfl rfl (fun hg => Ev.load1 (agg_run rfl) (by exact gvE hg rfl) (by exact H.ldL 1 rfl _ rfl)) ?_
  refine OPS.gval rfl rfl rfl rfl rfl (fun hg => Ev.neq (by exact gvE hg rfl) (by exact gvE hg rfl)) ?_
  refine OPS.val rfl rfl rfl ((by exact Ev.pickOr rfl rfl rfl)) ?_
  refine OPS.nil ?_
  refine WP.cond rfl (fun hc1 => ?_) (fun hc1 => ?_)
  · have hno : ¬ ProvedP n f t l amt cost on pots := by
      rintro ⟨q1, q2, _, _⟩
      have := hvb.2 q1
      simp [this, q2] at hc1
    refine WP.seq ?_
    refine WP.region ?_
    refine OPS.val rfl rfl rfl (Ev.asB rfl) ?_
    refine OPS.nil ?_
    refine WP.ret ⟨_, rfl, ?_⟩
    exact ⟨false, rfl, ⟨(fun h => by cases h), fun h => absurd h hno⟩, H.below⟩
  have hval : ValidP n f t l amt cost on := hvb.1 (by
    cases vb with
    | true => rfl
    | false => simp at hc1)
  have hpn : (pots.length : Int) = n := by
    cases vb with
    | false => simp at hc1
    | true => simp at hc1; omega
  obtain ⟨m, s, d, hE⟩ := endsOk_of hval.ends
  have e1 := hE.hn
  have e2 := hE.hf
  have e3 := hE.ht
  subst e1 e2 e3
  have hN := hE.net
  have hn2 := hN.n2
  have hll := hN.len
  have hpm : pots.length = m := by omega
  have hV := hval.flow.v
  have hol := hV.len
  refine WP.skip ?_
  refine WP.seq ?_
  refine WP.seq ?_
  refine WP.region ?_
  refine OPS.val rfl rfl rfl (Ev.asI rfl) ?_
  refine OPS.nil ?_
  refine WP.block ?_
  refine WP.loop [8, 9, 27, 28, 29, 30, 31, 32, 33, 34, 35, 36, 37, 38, 39, 40, 41, 42, 43, 44, 45, 46] (fun k e w' => ∃ q : Nat, q + k = pots.length ∧ e 9 = I q ∧ SH w0 [] w' [⟨g7, 38, [I amt, I cost, .slice B on.length cap2, .slice Bp pots.length cap3]⟩, ⟨g4, 24, [I m, .slice A l.length cap]⟩] ∧ ∀ i (h : i < pots.length), i < q → -1125899906842624 ≤ pots[i] ∧ pots[i] ≤ 1125899906842624) (pots.length) (⟨0, by omega, rfl, H, fun v _ hv => absurd hv (by omega)⟩) ?_
  clear H
  rintro k u w ⟨q, hq, h9, H, hbq⟩
  refine WP.know (t := 9) h9 ?_
  refine WP.seq ?_
  refine WP.seq ?_
  refine WP.region ?_
  refine OPS.val rfl rfl rfl (Ev.mvI rfl) ?_
  refine OPS.val rfl rfl rfl (Ev.fieldAddr (fld_run rfl) rfl) ?_
  refine OPS.val rfl rfl rfl (Ev.load1 (agg_run rfl) rfl (by exact H.ldL 1 rfl _ rfl)) ?_
  refine OPS.val rfl rfl rfl (Ev.lss rfl rfl) ?_
  refine OPS.nil ?_
  refine WP.cond rfl (fun hc4 => ?_) (fun hc4 => ?_)
  · have hqm : q < pots.length := by simp at hc4; omega
    obtain ⟨b2, o2, rfl, hx⟩ := hp q hqm
    refine WP.skip ?_
    refine WP.seq ?_
    refine WP.block ?_
    refine WP.seq ?_
    refine WP.region ?_
    refine OPS.val rfl rfl rfl (Ev.fieldAddr (fld_run rfl) rfl) ?_
    refine OPS.val rfl rfl rfl (Ev.load1 (agg_run rfl) rfl (by exact H.ldL 0 rfl _ rfl)) ?_
    refine OPS.val rfl rfl rfl (Ev.mvI rfl) ?_
    refine OPS.val rfl rfl rfl ((by exact Ev.indexAddr1 (el_run rfl) (size_run rfl) rfl rfl rfl (by omega))) ?_
    refine OPS.val rfl rfl rfl (Ev.load1 (agg_run rfl) rfl (by exact H.ld0 (by assumption))) ?_
    refine OPS.val rfl rfl rfl (Ev.lss rfl rfl) ?_
    refine OPS.val rfl rfl rfl (Ev.mvB rfl) ?_
    refine OPS.gval rfl rfl rfl rfl rfl (fun hg => Ev.fieldAddr (fld_run rfl) (by rfl)) ?_
    refine OPS.gval rfl rfl rfl rfl rfl (fun hg => Ev.load1 (agg_run rfl) (by exact gvE hg rfl) (by exact H.ldL 0 rfl _ rfl)) ?_
    refine OPS.gval rfl rfl rfl rfl rfl (fun hg => Ev.mvI (by rfl)) ?_
    refine OPS.gval rfl rfl rfl rfl rfl (fun hg => (by exact Ev.indexAddr1 (el_run rfl) (size_run rfl) (by exact gvE hg rfl) (by exact gvE hg rfl) rfl (by omega))) ?_
    refine OPS.gval rfl rfl rfl rfl rfl (fun hg => Ev.load1 (agg_run rfl) (by exact gvE hg rfl) (by exact H.ld0 (by assumption))) ?_
    refine OPS.gval rfl rfl rfl rfl rfl (fun hg => Ev.gtr (by exact gvE hg rfl) (by rfl)) ?_
    refine OPS.val rfl rfl rfl ((by exact Ev.pickOr rfl rfl rfl)) ?_
    refine OPS.nil ?_
    refine WP.cond rfl (fun hc6 => ?_) (fun hc6 => ?_)
    · refine WP.seq ?_
      refine WP.region ?_
      refine OPS.val rfl rfl rfl (Ev.asB rfl) ?_
      refine OPS.nil ?_
      refine WP.ret ⟨_, rfl, ?_⟩
      refine ⟨false, rfl, ⟨(fun h => by cases h), fun h => ?_⟩, H.below⟩
      have := h.bd q hqm
      simp at hc6; omega
    refine WP.skip ?_
    refine WP.region ?_
    refine OPS.val rfl rfl rfl (Ev.mvI rfl) ?_
    refine OPS.val rfl rfl rfl (Ev.add rfl rfl (by unfold fits; omega)) ?_
    refine OPS.val rfl rfl rfl (Ev.asI rfl) ?_
    refine OPS.nil ?_
    refine ⟨(by repeat (first | exact Agree.refl _ _ | exact Agree.mix _ _ _ | refine Agree.upd rfl ?_ | refine Agree.mix2 rfl ?_)), k - 1, by omega, q + 1, by omega, rfl, H, fun i hi hij => ?_⟩
    rcases Nat.lt_succ_iff_lt_or_eq.1 hij with h | rfl
    · exact hbq i hi h
    · simp at hc6; omega
  have hqm : q = pots.length := by simp at hc4; omega
  have hpb : ∀ i (h : i < pots.length), -1125899906842624 ≤ pots[i] ∧ pots[i] ≤ 1125899906842624 := fun i h => hbq i h (by omega)
  refine WP.exit ?_
  refine XB.hit ?_
  refine WP.seq ?_
  refine WP.seq ?_
  refine WP.region ?_
  refine OPS.val rfl rfl rfl (Ev.asI rfl) ?_
  refine OPS.nil ?_
  refine WP.block ?_
  refine WP.loop [8, 10, 11, 12, 47, 48, 49, 50, 51, 52, 53, 54, 55, 56, 57, 58, 59, 60, 61, 62, 63, 64, 65, 66, 67, 68, 69, 70, 71, 72, 73, 74, 75, 76, 77, 78, 79, 80, 81, 82, 83, 84, 85, 86, 87, 88, 89, 90, 91, 92, 93, 94, 95, 96, 97, 98] (fun k e w' => ∃ j : Nat, j + k = l.length ∧ e 10 = I j ∧ SH w0 [] w' [⟨g7, 38, [I amt, I cost, .slice B on.length cap2, .slice Bp pots.length cap3]⟩, ⟨g4, 24, [I m, .slice A l.length cap]⟩] ∧ ∀ i (h : i < l.length) (h2 : i < on.length), i < j → (on[i] < l[i].cap → 0 ≤ rc (potF pots) l[i]) ∧ (0 < on[i] → rc (potF pots) l[i] ≤ 0)) (l.length) (⟨0, by omega, rfl, H, fun v _ _ hv => absurd hv (by omega)⟩) ?_
  clear H
  rintro k u w ⟨j, hk, h10, H, hoq⟩
  refine WP.know (t := 10) h10 ?_
  refine WP.seq ?_
  refine WP.seq ?_
  refine WP.region ?_
  refine OPS.val rfl rfl rfl (Ev.mvI rfl) ?_
  refine OPS.val rfl rfl rfl (Ev.fieldAddr (fld_run rfl) rfl) ?_
  refine OPS.val rfl rfl rfl (Ev.load1 (agg_run rfl) rfl (by exact H.ldL 1 rfl _ rfl)) ?_
  refine OPS.val rfl rfl rfl (Ev.len (el_run rfl) rfl) ?_
  refine OPS.val rfl rfl rfl (Ev.lss rfl rfl) ?_
  refine OPS.nil ?_
  refine WP.cond rfl (fun hc9 => ?_) (fun hc9 => ?_)
  · have hlt : j < l.length := by simp at hc9; omega
    have hlt2 : j < on.length := by omega
    obtain ⟨b, o, rfl, hc⟩ := hz j hlt
    obtain ⟨b2, o2, rfl, hx⟩ := ho j hlt2
    have hc' := cellsAt_sh H hc
    have h1 := hN.nodes l[j] (List.getElem_mem _)
    have h2 := hN.caps l[j] (List.getElem_mem _)
    obtain ⟨a, hfa⟩ := Int.eq_ofNat_of_zero_le h1.1.1
    obtain ⟨b', htb⟩ := Int.eq_ofNat_of_zero_le h1.2.1
    have ham : a < pots.length := by omega
    have hbm : b' < pots.length := by omega
    obtain ⟨b3, o3, rfl, hxa⟩ := hp a ham
    obtain ⟨_, _, e1, hxb⟩ := hp b' hbm
    cases e1
    have hpa := hpb a ham
    have hpb' := hpb b' hbm
    have hrc : rc (potF pots) l[j] = l[j].cost + pots[a] - pots[b'] := by unfold rc potF; rw [hfa, htb]; simp [ham, hbm]
    refine WP.skip ?_
    refine WP.seq ?_
    refine WP.block ?_
    refine WP.seq ?_
    refine WP.region ?_
    refine OPS.val rfl rfl rfl (Ev.fieldAddr (fld_run rfl) rfl) ?_
    refine OPS.val rfl rfl rfl (Ev.load1 (agg_run rfl) rfl (by exact H.ldL 1 rfl _ rfl)) ?_
    refine OPS.val rfl rfl rfl (Ev.mvI rfl) ?_
    refine OPS.val rfl rfl rfl ((by exact Ev.indexAddr (el_run rfl) (size_run rfl) rfl rfl rfl (by omega))) ?_
    refine OPS.val rfl rfl rfl ((by (change Ev _ _ _ _ (Op.load 46 (Operand.tmp 57)) _; exact Ev.loadN (arcCells l[j]) (agg_run rfl) (size_run rfl) rfl hc'))) ?_
    refine OPS.alloc rfl rfl rfl rfl (zero_run rfl) rfl H ?_
    clear H; intro g11 w H
    refine OPS.store 0 _ rfl rfl rfl (size_run rfl) rfl (cA rfl) rfl rfl H rfl (by simp) ?_
    clear H; intro w H; try simp only [List.set_cons_zero, List.set_cons_succ, putL, Nat.zero_add] at H
    refine OPS.nil ?_
    refine WP.seq ?_
    rw [show arcCells l[j] = [I a, I b', I l[j].cap, I l[j].cost] from by unfold arcCells; rw [hfa, htb]] at H
    refine WP.rstill mixed (by kernel_rfl) H ?_
    clear H; intro w hbw12 H
    refine OPS.val rfl rfl rfl (Ev.fieldAddr (fld_run rfl) rfl) ?_
    refine OPS.val rfl rfl rfl (Ev.load1 (agg_run rfl) rfl (by exact H.ldL 0 rfl _ rfl)) ?_
    refine OPS.val rfl rfl rfl (Ev.fieldAddr (fld_run rfl) rfl) ?_
    refine OPS.val rfl rfl rfl (Ev.load1 (agg_run rfl) rfl (by exact H.ldL 1 rfl _ rfl)) ?_
    refine OPS.val rfl rfl rfl (Ev.fieldAddr (fld_run rfl) rfl) ?_
    refine OPS.val rfl rfl rfl (Ev.load1 (agg_run rfl) rfl (by exact H.ldL 0 rfl _ rfl)) ?_
    refine OPS.val rfl rfl rfl ((by exact Ev.indexAddr1 (el_run rfl) (size_run rfl) rfl rfl rfl (by omega))) ?_
    refine OPS.val rfl rfl rfl (Ev.load1 (agg_run rfl) rfl (by exact H.ld0 (by assumption))) ?_
    refine OPS.val rfl rfl rfl (Ev.add rfl rfl (by unfold fits; omega)) ?_
    refine OPS.val rfl rfl rfl (Ev.fieldAddr (fld_run rfl) rfl) ?_
    refine OPS.val rfl rfl rfl (Ev.load1 (agg_run rfl) rfl (by exact H.ldL 1 rfl _ rfl)) ?_
    refine OPS.val rfl rfl rfl (Ev.fieldAddr (fld_run rfl) rfl) ?_
    refine OPS.val rfl rfl rfl (Ev.load1 (agg_run rfl) rfl (by exact H.ldL 0 rfl _ rfl)) ?_
    refine OPS.val rfl rfl rfl ((by exact Ev.indexAddr1 (el_run rfl) (size_run rfl) rfl rfl rfl (by omega))) ?_
    refine OPS.val rfl rfl rfl (Ev.load1 (agg_run rfl) rfl (by exact H.ld0 (by assumption))) ?_
    refine OPS.val rfl rfl rfl (Ev.sub rfl rfl (by unfold fits; omega)) ?_
    refine OPS.val rfl rfl rfl (Ev.asI rfl) ?_
    refine OPS.nil_s ?_
    refine WP.seq ?_
    refine WP.rstill mixed (by kernel_rfl) H ?_
    clear H; intro w hbw13 H
    refine OPS.val rfl rfl rfl (Ev.fieldAddr (fld_run rfl) rfl) ?_
    refine OPS.val rfl rfl rfl (Ev.load1 (agg_run rfl) rfl (by exact H.ldL 1 rfl _ rfl)) ?_
    refine OPS.val rfl rfl rfl (Ev.mvI rfl) ?_
    refine OPS.val rfl rfl rfl ((by exact Ev.indexAddr1 (el_run rfl) (size_run rfl) rfl rfl rfl (by omega))) ?_
    refine OPS.val rfl rfl rfl (Ev.load1 (agg_run rfl) rfl (by exact H.ld0 (by assumption))) ?_
    refine OPS.val rfl rfl rfl (Ev.fieldAddr (fld_run rfl) rfl) ?_
    refine OPS.val rfl rfl rfl (Ev.load1 (agg_run rfl) rfl (by exact H.ldL 0 rfl _ rfl)) ?_
    refine OPS.val rfl rfl rfl (Ev.lss rfl rfl) ?_
    refine OPS.val rfl rfl rfl (Ev.mvB rfl) ?_
    refine OPS.gval rfl rfl rfl rfl rfl (fun hg => Ev.mvI (by rfl)) ?_
    refine OPS.gval rfl rfl rfl rfl rfl (fun hg => Ev.lss (by exact gvE hg rfl) (by rfl)) ?_
    refine OPS.val rfl rfl rfl ((by exact Ev.pickAnd rfl rfl rfl)) ?_
    refine OPS.val rfl rfl rfl (Ev.mvB rfl) ?_
    refine OPS.gval rfl rfl rfl rfl rfl (fun hg => Ev.fieldAddr (fld_run rfl) (by rfl)) ?_
    refine OPS.gval rfl rfl rfl rfl rfl (fun hg => Ev.load1 (agg_run rfl) (by exact gvE hg rfl) (by exact H.ldL 1 rfl _ rfl)) ?_
    refine OPS.gval rfl rfl rfl rfl rfl (fun hg => Ev.mvI (by rfl)) ?_
    refine OPS.gval rfl rfl rfl rfl rfl (fun hg => (by exact Ev.indexAddr1 (el_run rfl) (size_run rfl) (by exact gvE hg rfl) (by exact gvE hg rfl) rfl (by omega))) ?_
    refine OPS.gval rfl rfl rfl rfl rfl (fun hg => Ev.load1 (agg_run rfl) (by exact gvE hg rfl) (by exact H.ld0 (by assumption))) ?_
    refine OPS.gval rfl rfl rfl rfl rfl (fun hg => Ev.gtr (by exact gvE hg rfl) (by rfl)) ?_
    refine OPS.gval rfl rfl rfl rfl rfl (fun hg => Ev.mvB (by exact gvE hg rfl)) ?_
    refine OPS.gvalN rfl rfl (GB.g rfl) rfl rfl (fun hg => Ev.mvI (by rfl)) ?_
    refine OPS.gvalN rfl rfl (GB.g rfl) rfl rfl (fun hg => Ev.gtr (by exact gvE hg rfl) (by rfl)) ?_
    refine OPS.gval rfl rfl rfl rfl rfl (fun hg => (by exact Ev.pickAnd2 (beqT hg) (gvE hg rfl) rfl rfl)) ?_
    refine OPS.val rfl rfl rfl ((by exact Ev.pickOr rfl rfl rfl)) ?_
    refine OPS.nil_s ?_
    refine WP.cond rfl (fun hc13 => ?_) (fun hc13 => ?_)
    · refine WP.seq ?_
      refine WP.region ?_
      refine OPS.val rfl rfl rfl (Ev.asB rfl) ?_
      refine OPS.nil ?_
      refine WP.ret ⟨_, rfl, ?_⟩
      refine ⟨false, rfl, ⟨(fun h => by cases h), fun h => ?_⟩, H.below⟩
      have := h.opt j hlt hlt2
      rw [hrc] at this
      simp at hc13; omega
    refine WP.skip ?_
    refine WP.region ?_
    refine OPS.val rfl rfl rfl (Ev.mvI rfl) ?_
    refine OPS.val rfl rfl rfl (Ev.add rfl rfl (by unfold fits; omega)) ?_
    refine OPS.val rfl rfl rfl (Ev.asI rfl) ?_
    refine OPS.nil ?_
    refine ⟨(by repeat (first | exact Agree.refl _ _ | exact Agree.mix _ _ _ | refine Agree.upd rfl ?_ | refine Agree.mix2 rfl ?_)), k - 1, by omega, j + 1, by omega, rfl, H.drop (List.sublist_cons_self _ _), fun i hi hi2 hij => ?_⟩
    rcases Nat.lt_succ_iff_lt_or_eq.1 hij with h | rfl
    · exact hoq i hi hi2 h
    · rw [hrc]; simp at hc13; omega
  refine WP.exit ?_
  refine XB.hit ?_
  refine WP.seq ?_
  refine WP.region ?_
  refine OPS.val rfl rfl rfl (Ev.asB rfl) ?_
  refine OPS.nil ?_
  refine WP.ret ⟨_, rfl, ?_⟩
  have hjl : j = l.length := by simp at hc9; omega
  exact ⟨true, rfl, ⟨fun _ => ⟨hval, hpn, hpb, fun i h h2 => hoq i h h2 (by omega)⟩, fun _ => rfl⟩, H.below⟩
end Go.Proofs.Ythegjmgljolalaa
