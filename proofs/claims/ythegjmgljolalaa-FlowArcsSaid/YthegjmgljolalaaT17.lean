/-
  Walk: Proved.
-/
import Derived.Test.YthegjmgljolalaaT16
import Derived.Test.YthegjmgljolalaaM6
set_option linter.all false
namespace Go.Proofs.Ythegjmgljolalaa
open Go Go.W Go.RowKit

structure ProvedP (n f t : Int) (l : List Arc) (amt cost : Int) (on pots : List Int) : Prop where
  valid : ValidP n f t l amt cost on
  len : (pots.length : Int) = n
  bd : ∀ i (h : i < pots.length), -1125899906842624 ≤ pots[i] ∧ pots[i] ≤ 1125899906842624
  opt : OptPot (potF pots) l on

set_option maxHeartbeats 1000000 in
theorem flowProved (n f t amt cost : Int) (A B Bp : Option Addr) (l : List Arc) (on pots : List Int) (cap cap2 cap3 : Nat) (w0 : World) (hz : ArcsAt w0 A l) (ho : IntsAt w0 B on) (hp : IntsAt w0 Bp pots) :
    Calls Try.prog 25 #[.agg #[I n, .slice A l.length cap], I f, I t, .agg #[I amt, I cost, .slice B on.length cap2, .slice Bp pots.length cap3]] w0 fun e w' => ∃ b : Bool, e = .returned (.bool b) ∧ (b = true ↔ ProvedP n f t l amt cost on pots) ∧ Below w0.heap.size w0 w' := by
  have H := SH.refl w0
  refine Calls.ofWP Try.func25 rfl Try.results25 Try.ntmps25 rfl ?_
  refine WP.seq ?_
  refine WP.region ?_
  refine OPS.box rfl rfl rfl rfl (cA rfl) H ?_
  clear H; intro g4 w H
  refine OPS.box rfl rfl rfl rfl (cA rfl) H ?_
  clear H; intro g7 w H
  refine OPS.val rfl rfl rfl (Ev.asB rfl) ?_
  refine OPS.nil ?_
  refine WP.seq ?_
  refine WP.seq ?_
  refine WP.region ?_
  refine OPS.val rfl rfl rfl ((by exact Ev.loadO 1 H rfl (agg_run rfl) (size_run rfl) (by rfl) rfl)) ?_
  refine OPS.val rfl rfl rfl (Ev.mvI rfl) ?_
  refine OPS.val rfl rfl rfl (Ev.mvI rfl) ?_
  refine OPS.val rfl rfl rfl ((by exact Ev.loadO 0 H rfl (agg_run rfl) (size_run rfl) (by rfl) rfl)) ?_
  refine OPS.call (d := some 18) rfl rfl rfl (EvC.func (fun_run rfl)) (flowValid n f t amt cost A B Bp l on cap cap2 pots.length cap3 w (hz.sh H) (ho.sh H)) ?_
  rintro _ w ⟨vb, rfl, hvb, hb⟩
  refine ⟨_, rfl, ?_⟩
  replace H := H.toBelow hb; clear hb
  refine OPS.val rfl rfl rfl (Ev.not rfl) ?_
  refine OPS.val rfl rfl rfl (Ev.mvB rfl) ?_
  refine OPS.gval rfl rfl rfl rfl rfl (fun hg => Ev.fieldAddr (fld_run rfl) (by rfl)) ?_
  refine OPS.gval rfl rfl rfl rfl rfl (fun hg => Ev.load1 (agg_run rfl) (by exact gvE hg rfl) (by exact H.ldL 0 rfl _ rfl)) ?_
  refine OPS.gval rfl rfl rfl rfl rfl (fun hg => Ev.len (el_run rfl) (by exact gvE hg rfl)) ?_
  refine OPS.gval rfl rfl rfl rfl rfl (fun hg => Ev.fieldAddr (fld_run rfl) (by rfl)) ?_
  refine OPS.gval rfl rfl rfl rfl rfl (fun hg => Ev.load1 (agg_run rfl) (by exact gvE hg rfl) (by exact H.ldL 1 rfl _ rfl)) ?_
  refine OPS.gval rfl rfl rfl rfl rfl (fun hg => Ev.neq (by exact gvE hg rfl) (by exact gvE hg rfl)) ?_
  refine OPS.val rfl rfl rfl ((by exact Ev.pickOr rfl rfl rfl)) ?_
  refine OPS.nil ?_
  refine WP.cond rfl (fun hc1 => ?_) (fun hc1 => ?_)
  · have hno : ¬ ProvedP n f t l amt cost on pots := by
      rintro ⟨q1, q2, _, _⟩
      have := hvb.2 q1
      simp [this, q2] at hc1
    refine WP.seq ?_
    refine WP.region ?_
    refine OPS.val rfl rfl rfl (Ev.asB rfl) ?_
    refine OPS.nil ?_
    refine WP.ret ⟨_, rfl, ?_⟩
    exact ⟨false, rfl, ⟨(fun h => by cases h), fun h => absurd h hno⟩, H.below⟩
  have hval : ValidP n f t l amt cost on := hvb.1 (by
    cases vb with
    | true => rfl
    | false => simp at hc1)
  have hpn : (pots.length : Int) = n := by
    cases vb with
    | false => simp at hc1
    | true => simp at hc1; omega
  obtain ⟨m, s, d, hE⟩ := endsOk_of hval.ends
  have e1 := hE.hn
  have e2 := hE.hf
  have e3 := hE.ht
  subst e1 e2 e3
  have hN := hE.net
  have hn2 := hN.n2
  have hll := hN.len
  have hpm : pots.length = m := by omega
  have hV := hval.flow.v
  have hol := hV.len
  refine WP.skip ?_
  refine WP.seq ?_
  refine WP.seq ?_
  refine WP.region ?_
  refine OPS.val rfl rfl rfl (Ev.fieldAddr (fld_run rfl) rfl) ?_
  refine OPS.val rfl rfl rfl (Ev.load1 (agg_run rfl) rfl (by exact H.ldL 0 rfl _ rfl)) ?_
  refine OPS.val rfl rfl rfl (Ev.len (el_run rfl) rfl) ?_
  refine OPS.val rfl rfl rfl (Ev.mvI rfl) ?_
  refine OPS.nil ?_
  refine WP.block ?_
  refine WP.loop [8, 10, 31, 32, 33, 34, 35, 36, 37, 38, 39, 40, 41] (fun k e w' => ∃ q : Nat, q + k = pots.length ∧ e 31 = I q ∧ SH w0 [] w' [⟨g7, 38, [I amt, I cost, .slice B on.length cap2, .slice Bp pots.length cap3]⟩, ⟨g4, 24, [I m, .slice A l.length cap]⟩] ∧ ∀ i (h : i < pots.length), i < q → -1125899906842624 ≤ pots[i] ∧ pots[i] ≤ 1125899906842624) (pots.length) (⟨0, by omega, rfl, H, fun v _ hv => absurd hv (by omega)⟩) ?_
  clear H
  rintro k u w ⟨q, hq, h31, H, hbq⟩
  refine WP.know (t := 31) h31 ?_
  refine WP.seq ?_
  refine WP.region ?_
  refine OPS.val rfl rfl rfl (Ev.lss rfl rfl) ?_
  refine OPS.nil ?_
  refine WP.seq ?_
  refine WP.cond rfl (fun hc4 => ?_) (fun hc4 => ?_)
  · have hqm : q < pots.length := by simpa using hc4
    obtain ⟨b2, o2, rfl, hx⟩ := hp q hqm
    refine WP.skip ?_
    refine WP.seq ?_
    refine WP.block ?_
    refine WP.seq ?_
    refine WP.region ?_
    refine OPS.val rfl rfl rfl ((by exact Ev.indexAddr1 (el_run rfl) (size_run rfl) rfl rfl rfl (by omega))) ?_
    refine OPS.val rfl rfl rfl (Ev.load1 (agg_run rfl) rfl (by exact H.ld0 (by assumption))) ?_
    refine OPS.val rfl rfl rfl (Ev.asI rfl) ?_
    refine OPS.nil ?_
    refine WP.seq ?_
    refine WP.region ?_
    refine OPS.val rfl rfl rfl (Ev.mvI rfl) ?_
    refine OPS.val rfl rfl rfl (Ev.lss rfl rfl) ?_
    refine OPS.val rfl rfl rfl (Ev.mvB rfl) ?_
    refine OPS.gval rfl rfl rfl rfl rfl (fun hg => Ev.mvI (by rfl)) ?_
    refine OPS.gval rfl rfl rfl rfl rfl (fun hg => Ev.gtr (by exact gvE hg rfl) (by rfl)) ?_
    refine OPS.val rfl rfl rfl ((by exact Ev.pickOr rfl rfl rfl)) ?_
    refine OPS.nil ?_
    refine WP.cond rfl (fun hc6 => ?_) (fun hc6 => ?_)
    · refine WP.seq ?_
      refine WP.region ?_
      refine OPS.val rfl rfl rfl (Ev.asB rfl) ?_
      refine OPS.nil ?_
      refine WP.ret ⟨_, rfl, ?_⟩
      refine ⟨false, rfl, ⟨(fun h => by cases h), fun h => ?_⟩, H.below⟩
      have := h.bd q hqm
      simp at hc6; omega
    refine WP.skip ?_
    refine WP.region ?_
    refine OPS.val rfl rfl rfl (Ev.add rfl rfl (by unfold fits; omega)) ?_
    refine OPS.val rfl rfl rfl (Ev.mvI rfl) ?_
    refine OPS.nil ?_
    refine ⟨(by repeat (first | exact Agree.refl _ _ | exact Agree.mix _ _ _ | refine Agree.upd rfl ?_ | refine Agree.mix2 rfl ?_)), k - 1, by omega, q + 1, by omega, rfl, H, fun i hi hij => ?_⟩
    rcases Nat.lt_succ_iff_lt_or_eq.1 hij with h | rfl
    · exact hbq i hi h
    · simp at hc6; omega
  have hqm : q = pots.length := by simp at hc4; omega
  have hpb : ∀ i (h : i < pots.length), -1125899906842624 ≤ pots[i] ∧ pots[i] ≤ 1125899906842624 := fun i h => hbq i h (by omega)
  refine WP.exit ?_
  refine XB.hit ?_
  refine WP.seq ?_
  refine WP.seq ?_
  refine WP.region ?_
  refine OPS.val rfl rfl rfl (Ev.fieldAddr (fld_run rfl) rfl) ?_
  refine OPS.val rfl rfl rfl (Ev.load1 (agg_run rfl) rfl (by exact H.ldL 1 rfl _ rfl)) ?_
  refine OPS.val rfl rfl rfl (Ev.len (el_run rfl) rfl) ?_
  refine OPS.val rfl rfl rfl (Ev.mvI rfl) ?_
  refine OPS.nil ?_
  refine WP.block ?_
  refine WP.loop [8, 11, 12, 13, 45, 46, 47, 48, 49, 50, 51, 52, 53, 54, 55, 56, 57, 58, 59, 60, 61, 62, 63, 64, 65, 66, 67, 68, 69, 70, 71, 72, 73, 74, 75, 76, 77, 78, 79, 80, 81, 82, 83, 84, 85, 86, 87, 88, 89, 90] (fun k e w' => ∃ j : Nat, j + k = l.length ∧ e 45 = I j ∧ SH w0 [] w' [⟨g7, 38, [I amt, I cost, .slice B on.length cap2, .slice Bp pots.length cap3]⟩, ⟨g4, 24, [I m, .slice A l.length cap]⟩] ∧ ∀ i (h : i < l.length) (h2 : i < on.length), i < j → (on[i] < l[i].cap → 0 ≤ rc (potF pots) l[i]) ∧ (0 < on[i] → rc (potF pots) l[i] ≤ 0)) (l.length) (⟨0, by omega, rfl, H, fun v _ _ hv => absurd hv (by omega)⟩) ?_
  clear H
  rintro k u w ⟨j, hk, h45, H, hoq⟩
  refine WP.know (t := 45) h45 ?_
  refine WP.seq ?_
  refine WP.region ?_
  refine OPS.val rfl rfl rfl (Ev.lss rfl rfl) ?_
  refine OPS.nil ?_
  refine WP.seq ?_
  refine WP.cond rfl (fun hc10 => ?_) (fun hc10 => ?_)
  · have hlt : j < l.length := by simpa using hc10
    have hlt2 : j < on.length := by omega
    obtain ⟨b, o, rfl, hc⟩ := hz j hlt
    obtain ⟨b2, o2, rfl, hx⟩ := ho j hlt2
    have hc' := cellsAt_sh H hc
    have h1 := hN.nodes l[j] (List.getElem_mem _)
    have h2 := hN.caps l[j] (List.getElem_mem _)
    obtain ⟨a, hfa⟩ := Int.eq_ofNat_of_zero_le h1.1.1
    obtain ⟨b', htb⟩ := Int.eq_ofNat_of_zero_le h1.2.1
    have ham : a < pots.length := by omega
    have hbm : b' < pots.length := by omega
    obtain ⟨b3, o3, rfl, hxa⟩ := hp a ham
    obtain ⟨_, _, e1, hxb⟩ := hp b' hbm
    cases e1
    have hpa := hpb a ham
    have hpb' := hpb b' hbm
    have hrc : rc (potF pots) l[j] = l[j].cost + pots[a] - pots[b'] := by unfold rc potF; rw [hfa, htb]; simp [ham, hbm]
    refine WP.skip ?_
    refine WP.seq ?_
    refine WP.block ?_
    refine WP.seq ?_
    refine WP.region ?_
    refine OPS.val rfl rfl rfl (Ev.mvI rfl) ?_
    refine OPS.val rfl rfl rfl ((by exact Ev.indexAddr (el_run rfl) (size_run rfl) rfl rfl rfl (by omega))) ?_
    refine OPS.val rfl rfl rfl ((by (change Ev _ _ _ _ (Op.load 46 (Operand.tmp 48)) _; exact Ev.loadN (arcCells l[j]) (agg_run rfl) (size_run rfl) rfl hc'))) ?_
    refine OPS.alloc rfl rfl rfl rfl (zero_run rfl) rfl H ?_
    clear H; intro g12 w H
    refine OPS.val rfl rfl rfl (Ev.asI rfl) ?_
    refine OPS.store 0 _ rfl rfl rfl (size_run rfl) rfl (cA rfl) rfl rfl H rfl (by simp) ?_
    clear H; intro w H; try simp only [List.set_cons_zero, List.set_cons_succ, putL, Nat.zero_add] at H
    refine OPS.nil ?_
    refine WP.seq ?_
    rw [show arcCells l[j] = [I a, I b', I l[j].cap, I l[j].cost] from by unfold arcCells; rw [hfa, htb]] at H
    refine WP.rstill mixed (by kernel_rfl) H ?_
    clear H; intro w hbw12 H
    refine OPS.val rfl rfl rfl (Ev.fieldAddr (fld_run rfl) rfl) ?_
    refine OPS.val rfl rfl rfl (Ev.load1 (agg_run rfl) rfl (by exact H.ldL 0 rfl _ rfl)) ?_
    refine OPS.val rfl rfl rfl (Ev.fieldAddr (fld_run rfl) rfl) ?_
    refine OPS.val rfl rfl rfl (Ev.load1 (agg_run rfl) rfl (by exact H.ldL 1 rfl _ rfl)) ?_
    refine OPS.val rfl rfl rfl (Ev.fieldAddr (fld_run rfl) rfl) ?_
    refine OPS.val rfl rfl rfl (Ev.load1 (agg_run rfl) rfl (by exact H.ldL 0 rfl _ rfl)) ?_
    refine OPS.val rfl rfl rfl ((by exact Ev.indexAddr1 (el_run rfl) (size_run rfl) rfl rfl rfl (by omega))) ?_
    refine OPS.val rfl rfl rfl (Ev.load1 (agg_run rfl) rfl (by exact H.ld0 (by assumption))) ?_
    refine OPS.val rfl rfl rfl (Ev.add rfl rfl (by unfold fits; omega)) ?_
    refine OPS.val rfl rfl rfl (Ev.fieldAddr (fld_run rfl) rfl) ?_
    refine OPS.val rfl rfl rfl (Ev.load1 (agg_run rfl) rfl (by exact H.ldL 1 rfl _ rfl)) ?_
    refine OPS.val rfl rfl rfl (Ev.fieldAddr (fld_run rfl) rfl) ?_
    refine OPS.val rfl rfl rfl (Ev.load1 (agg_run rfl) rfl (by exact H.ldL 0 rfl _ rfl)) ?_
    refine OPS.val rfl rfl rfl ((by exact Ev.indexAddr1 (el_run rfl) (size_run rfl) rfl rfl rfl (by omega))) ?_
    refine OPS.val rfl rfl rfl (Ev.load1 (agg_run rfl) rfl (by exact H.ld0 (by assumption))) ?_
    refine OPS.val rfl rfl rfl (Ev.sub rfl rfl (by unfold fits; omega)) ?_
    refine OPS.val rfl rfl rfl (Ev.asI rfl) ?_
    refine OPS.nil_s ?_
    refine WP.seq ?_
    refine WP.rstill mixed (by kernel_rfl) H ?_
    clear H; intro w hbw13 H
    refine OPS.val rfl rfl rfl (Ev.fieldAddr (fld_run rfl) rfl) ?_
    refine OPS.val rfl rfl rfl (Ev.load1 (agg_run rfl) rfl (by exact H.ldL 1 rfl _ rfl)) ?_
    refine OPS.val rfl rfl rfl (Ev.mvI rfl) ?_
    refine OPS.val rfl rfl rfl ((by exact Ev.indexAddr1 (el_run rfl) (size_run rfl) rfl rfl rfl (by omega))) ?_
    refine OPS.val rfl rfl rfl (Ev.load1 (agg_run rfl) rfl (by exact H.ld0 (by assumption))) ?_
    refine OPS.val rfl rfl rfl (Ev.fieldAddr (fld_run rfl) rfl) ?_
    refine OPS.val rfl rfl rfl (Ev.load1 (agg_run rfl) rfl (by exact H.ldL 0 rfl _ rfl)) ?_
    refine OPS.val rfl rfl rfl (Ev.lss rfl rfl) ?_
    refine OPS.val rfl rfl rfl (Ev.mvB rfl) ?_
    refine OPS.gval rfl rfl rfl rfl rfl (fun hg => Ev.mvI (by rfl)) ?_
    refine OPS.gval rfl rfl rfl rfl rfl (fun hg => Ev.lss (by exact gvE hg rfl) (by rfl)) ?_
    refine OPS.val rfl rfl rfl ((by exact Ev.pickAnd rfl rfl rfl)) ?_
    refine OPS.val rfl rfl rfl (Ev.mvB rfl) ?_
    refine OPS.gval rfl rfl rfl rfl rfl (fun hg => Ev.fieldAddr (fld_run rfl) (by rfl)) ?_
    refine OPS.gval rfl rfl rfl rfl rfl (fun hg => Ev.load1 (agg_run rfl) (by exact gvE hg rfl) (by exact H.ldL 1 rfl _ rfl)) ?_
    refine OPS.gval rfl rfl rfl rfl rfl (fun hg => Ev.mvI (by rfl)) ?_
    refine OPS.gval rfl rfl rfl rfl rfl (fun hg => (by exact Ev.indexAddr1 (el_run rfl) (size_run rfl) (by exact gvE hg rfl) (by exact gvE hg rfl) rfl (by omega))) ?_
    refine OPS.gval rfl rfl rfl rfl rfl (fun hg => Ev.load1 (agg_run rfl) (by exact gvE hg rfl) (by exact H.ld0 (by assumption))) ?_
    refine OPS.gval rfl rfl rfl rfl rfl (fun hg => Ev.gtr (by exact gvE hg rfl) (by rfl)) ?_
    refine OPS.gval rfl rfl rfl rfl rfl (fun hg => Ev.mvB (by exact gvE hg rfl)) ?_
    refine OPS.gvalN rfl rfl (GB.g rfl) rfl rfl (fun hg => Ev.mvI (by rfl)) ?_
    refine OPS.gvalN rfl rfl (GB.g rfl) rfl rfl (fun hg => Ev.gtr (by exact gvE hg rfl) (by rfl)) ?_
    refine OPS.gval rfl rfl rfl rfl rfl (fun hg => (by exact Ev.pickAnd2 (beqT hg) (gvE hg rfl) rfl rfl)) ?_
    refine OPS.val rfl rfl rfl ((by exact Ev.pickOr rfl rfl rfl)) ?_
    refine OPS.nil_s ?_
    refine WP.cond rfl (fun hc13 => ?_) (fun hc13 => ?_)
    · refine WP.seq ?_
      refine WP.region ?_
      refine OPS.val rfl rfl rfl (Ev.asB rfl) ?_
      refine OPS.nil ?_
      refine WP.ret ⟨_, rfl, ?_⟩
      refine ⟨false, rfl, ⟨(fun h => by cases h), fun h => ?_⟩, H.below⟩
      have := h.opt j hlt hlt2
      rw [hrc] at this
      simp at hc13; omega
    refine WP.skip ?_
    refine WP.region ?_
    refine OPS.val rfl rfl rfl (Ev.add rfl rfl (by unfold fits; omega)) ?_
    refine OPS.val rfl rfl rfl (Ev.mvI rfl) ?_
    refine OPS.nil ?_
    refine ⟨(by repeat (first | exact Agree.refl _ _ | exact Agree.mix _ _ _ | refine Agree.upd rfl ?_ | refine Agree.mix2 rfl ?_)), k - 1, by omega, j + 1, by omega, rfl, H.drop (List.sublist_cons_self _ _), fun i hi hi2 hij => ?_⟩
    rcases Nat.lt_succ_iff_lt_or_eq.1 hij with h | rfl
    · exact hoq i hi hi2 h
    · rw [hrc]; simp at hc13; omega
  refine WP.exit ?_
  refine XB.hit ?_
  refine WP.seq ?_
  refine WP.region ?_
  refine OPS.val rfl rfl rfl (Ev.asB rfl) ?_
  refine OPS.nil ?_
  refine WP.ret ⟨_, rfl, ?_⟩
  have hjl : j = l.length := by simp at hc10; omega
  exact ⟨true, rfl, ⟨fun _ => ⟨hval, hpn, hpb, fun i h h2 => hoq i h h2 (by omega)⟩, fun _ => rfl⟩, H.below⟩
end Go.Proofs.Ythegjmgljolalaa
