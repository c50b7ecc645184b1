/-
  Walks: the laws FlowBetter, FlowGrows.
-/
import Derived.Test.YthegjmgljolalaaT26
set_option linter.all false
namespace Go.Proofs.Ythegjmgljolalaa
open Go Go.W Go.RowKit

theorem cheapErr_le {n f t amt amt' most : Int} {l : List Arc} (h : cheapErr n f t amt l most = 0) (h0 : 0 ≤ amt') (h1 : amt' ≤ amt) : cheapErr n f t amt' l most = 0 := by
  obtain ⟨q1, q2, q3, q4⟩ := cheapErr_ends h
  rw [cheapErr, if_neg (by simp [q1]), if_neg (by simp; omega), if_neg (by omega)]
theorem ValidP.ends2 {n f t amt cost : Int} {l : List Arc} {on : List Int} (h : ValidP n f t l amt cost on) : ∃ m s d : Nat, EndsOk n f t l m s d ∧ IsFlow m l s d on amt := by
  obtain ⟨m, s, d, hE⟩ := endsOk_of h.ends
  refine ⟨m, s, d, hE, ?_⟩
  have hf := h.flow
  rw [hE.hn, hE.hf, hE.ht] at hf
  exact hf
theorem EndsOk.same {n f t : Int} {l : List Arc} {m s d m' s' d' : Nat} (h : EndsOk n f t l m s d) (h' : EndsOk n f t l m' s' d') : m = m' ∧ s = s' ∧ d = d' := by
  have := h.hn; have := h'.hn; have := h.hf; have := h'.hf; have := h.ht; have := h'.ht
  omega
/-- Cheapest does no worse than any valid flow -/
theorem CheapRet.better {n f t amt cost : Int} {l : List Arc} {most a c er : Int} {on pots on' : List Int} (h : CheapRet n f t amt l most a c er on pots) (hv : ValidP n f t l amt cost on') (ha : amt ≤ 65536) : amt ≤ most ∧ er = 0 ∧ c ≤ cost ∧ ∀ pots', ProvedP n f t l amt cost on' pots' → c = cost := by
  obtain ⟨m, s, d, hE, hfl⟩ := hv.ends2
  obtain ⟨m', hm', hmax⟩ := h.mst.2.2 hv.ends
  rw [hE.hf, hE.ht, show m' = m by have := hE.hn; omega] at hmax
  have hge := hmax.ge hE.net.nodes hE.s1 hfl
  have he : er = 0 := by rw [h.err, cheapErr, if_neg (by simp [hv.ends]), if_neg (by have := hv.pos; simp; omega), if_neg (by omega)]
  obtain ⟨m2, s2, d2, hE2, _, hc, h1, h2⟩ := h.good he
  obtain ⟨rfl, rfl, rfl⟩ := hE.same hE2
  have hl := hc.least hE
  rw [← h2] at hl
  refine ⟨hge, he, by rw [← hv.cost]; exact hl.2 _ hfl, fun pots' hp => ?_⟩
  have hl2 := least_of hfl hp.opt hE.net.nodes ⟨by omega, by have := hE.s1; omega⟩ ⟨by omega, by have := hE.d1; omega⟩ (by have := hE.ne; omega)
  rw [hv.cost] at hl2
  exact hl.unique hl2
/-- each further unit costs at least as much as the one before it -/
theorem CheapRet.grows {n f t amt : Int} {l : List Arc} {most1 a1 c1 e1 most2 a2 c2 e2 most3 a3 c3 e3 : Int} {on1 pots1 on2 pots2 on3 pots3 : List Int} (h1 : CheapRet n f t (amt - 1) l most1 a1 c1 e1 on1 pots1) (h2 : CheapRet n f t amt l most2 a2 c2 e2 on2 pots2) (h3 : CheapRet n f t (amt + 1) l most3 a3 c3 e3 on3 pots3)
    (h0 : 1 ≤ amt) (he : e3 = 0) : e1 = 0 ∧ e2 = 0 ∧ c1 ≤ c2 ∧ c2 - c1 ≤ c3 - c2 ∧ (0 ≤ c1 ∧ c1 ≤ 2199023255552) ∧ (0 ≤ c2 ∧ c2 ≤ 2199023255552) ∧ (0 ≤ c3 ∧ c3 ≤ 2199023255552) := by
  obtain ⟨rfl, _⟩ := h1.mst.same h2.mst
  obtain ⟨rfl, _⟩ := h1.mst.same h3.mst
  have g3 := h3.err.symm.trans he
  have g2 : e2 = 0 := h2.err.trans (cheapErr_le g3 (by omega) (by omega))
  have g1 : e1 = 0 := h1.err.trans (cheapErr_le g3 (by omega) (by omega))
  obtain ⟨m, s, d, hE, _, k1, _, q1⟩ := h1.good g1
  obtain ⟨m2, s2, d2, hE2, _, k2, _, q2⟩ := h2.good g2
  obtain ⟨m3, s3, d3, hE3, _, k3, _, q3⟩ := h3.good he
  obtain ⟨rfl, rfl, rfl⟩ := hE.same hE2
  obtain ⟨rfl, rfl, rfl⟩ := hE.same hE3
  have hs : 0 ≤ (s : Int) ∧ (s : Int) < m := ⟨by omega, by have := hE.s1; omega⟩
  have hd : 0 ≤ (d : Int) ∧ (d : Int) < m := ⟨by omega, by have := hE.d1; omega⟩
  have hne : (s : Int) ≠ d := by have := hE.ne; omega
  have o1 := opt_le k1.flow k2.flow k1.opt hE.net.nodes hs hd hne
  have o2 := opt_le k2.flow k1.flow k2.opt hE.net.nodes hs hd hne
  have o3 := opt_le k2.flow k3.flow k2.opt hE.net.nodes hs hd hne
  rw [show amt - (amt - 1) = 1 by omega, Int.one_mul] at o1
  rw [show amt - 1 - amt = -1 by omega, Int.neg_mul, Int.one_mul] at o2
  rw [show amt + 1 - amt = 1 by omega, Int.one_mul] at o3
  have p1 : potF pots1 s = 0 := by have := k1.zero; simpa [potF] using this
  have p2 : 0 ≤ potF pots1 d := by have := (k1.bd d hE.d1).1; simpa [potF] using this
  have b1 := costOf_bd' hE.net k1.flow.v
  have b2 := costOf_bd' hE.net k2.flow.v
  have b3 := costOf_bd' hE.net k3.flow.v
  refine ⟨g1, g2, ?_, ?_, ?_, ?_, ?_⟩ <;> omega
theorem CheapRet.back {n f t amt : Int} {l : List Arc} {most1 a1 c1 e1 most2 a2 c2 e2 : Int} {on1 pots1 on2 pots2 : List Int} (h1 : CheapRet n f t (amt - 1) l most1 a1 c1 e1 on1 pots1) (h2 : CheapRet n f t amt l most2 a2 c2 e2 on2 pots2) (h0 : 1 ≤ amt) (he : e2 = 0) : e1 = 0 := by
  obtain ⟨rfl, _⟩ := h1.mst.same h2.mst
  exact h1.err.trans (cheapErr_le (h2.err.symm.trans he) (by omega) (by omega))

set_option maxHeartbeats 1000000 in
theorem lawBetter (n f t amt cost : Int) (A B Bp : Option Addr) (l : List Arc) (on pots : List Int) (cap cap2 cap3 : Nat) (w0 : World) (hz : ArcsAt w0 A l) (ho : IntsAt w0 B on) (hp : IntsAt w0 Bp pots) :
    Calls Try.prog 8 #[.agg #[I n, .slice A l.length cap], I f, I t, .agg #[I amt, I cost, .slice B on.length cap2, .slice Bp pots.length cap3]] w0 fun e w' => e = .returned (.bool true) ∧ Below w0.heap.size w0 w' := by
  have H := SH.refl w0
  refine Calls.ofWP Try.func8 rfl Try.results8 Try.ntmps8 rfl ?_
  refine WP.seq ?_
  refine WP.region ?_
  refine OPS.box rfl rfl rfl rfl (cA rfl) H ?_
  clear H; intro g4 w H
  refine OPS.box rfl rfl rfl rfl (cA rfl) H ?_
  clear H; intro g7 w H
  refine OPS.val rfl rfl rfl (Ev.asB rfl) ?_
  refine OPS.nil ?_
  refine WP.seq ?_
  refine WP.seq ?_
  refine WP.region ?_
  refine OPS.val rfl rfl rfl ((by exact Ev.loadO 1 H rfl (agg_run rfl) (size_run rfl) (by rfl) rfl)) ?_
  refine OPS.call (d := some 14) rfl rfl rfl (EvC.func (fun_run rfl)) (refSmall n A l.length cap w) ?_
  rintro _ w ⟨rfl, hb⟩
  refine ⟨_, rfl, ?_⟩
  replace H := H.toBelow hb; clear hb
  refine OPS.val rfl rfl rfl (Ev.not rfl) ?_
  refine OPS.val rfl rfl rfl (Ev.mvB rfl) ?_
  refine OPS.gval rfl rfl rfl rfl rfl (fun hg => Ev.fieldAddr (fld_run rfl) (by rfl)) ?_
  refine OPS.gval rfl rfl rfl rfl rfl (fun hg => Ev.load1 (agg_run rfl) (by exact gvE hg rfl) (by exact H.ldL 0 rfl _ rfl)) ?_
  refine OPS.gval rfl rfl rfl rfl rfl (fun hg => Ev.len (el_run rfl) (by exact gvE hg rfl)) ?_
  refine OPS.gval rfl rfl rfl rfl rfl (fun hg => Ev.gtr (by exact gvE hg rfl) (by rfl)) ?_
  refine OPS.val rfl rfl rfl ((by exact Ev.pickOr rfl rfl rfl)) ?_
  refine OPS.val rfl rfl rfl (Ev.mvB rfl) ?_
  refine OPS.gval rfl rfl rfl rfl rfl (fun hg => Ev.fieldAddr (fld_run rfl) (by rfl)) ?_
  refine OPS.gval rfl rfl rfl rfl rfl (fun hg => Ev.load1 (agg_run rfl) (by exact gvE hg rfl) (by exact H.ldL 0 rfl _ rfl)) ?_
  refine OPS.gval rfl rfl rfl rfl rfl (fun hg => Ev.len (el_run rfl) (by exact gvE hg rfl)) ?_
  refine OPS.gval rfl rfl rfl rfl rfl (fun hg => Ev.gtr (by exact gvE hg rfl) (by rfl)) ?_
  refine OPS.val rfl rfl rfl ((by exact Ev.pickOr rfl rfl rfl)) ?_
  refine OPS.val rfl rfl rfl (Ev.mvB rfl) ?_
  refine OPS.gval rfl rfl rfl rfl rfl (fun hg => (by exact Ev.loadO 1 H rfl (agg_run rfl) (size_run rfl) (by rfl) rfl)) ?_
  refine OPS.gval rfl rfl rfl rfl rfl (fun hg => Ev.mvI (by rfl)) ?_
  refine OPS.gval rfl rfl rfl rfl rfl (fun hg => Ev.mvI (by rfl)) ?_
  refine OPS.gval rfl rfl rfl rfl rfl (fun hg => (by exact Ev.loadO 0 H rfl (agg_run rfl) (size_run rfl) (by rfl) rfl)) ?_
  refine OPS.gcall0 (f := 23) ((flowValid n f t amt cost A B Bp l on cap cap2 pots.length cap3 w (hz.sh H) (ho.sh H)).mono fun e w' ⟨b, he, hb, Hc⟩ => ⟨by rw [he, bool_dec hb], Hc⟩) (fun _ _ h => h) rfl rfl rfl rfl rfl (fun hg => EvC.conv (EvC.func (fun_run rfl)) (l4 (by exact gvE hg rfl) (by exact gvE hg rfl) (by exact gvE hg rfl) (by exact gvE hg rfl))) ?_
  intro w hbc; replace H := H.toBelow hbc
  refine OPS.gval rfl rfl rfl rfl rfl (fun hg => Ev.not (by exact gvE hg rfl)) ?_
  refine OPS.val rfl rfl rfl ((by exact Ev.pickOr rfl rfl rfl)) ?_
  refine OPS.nil ?_
  refine WP.cond rfl (fun hc1 => ?_) (fun hc1 => ?_)
  · refine WP.seq ?_
    refine WP.region ?_
    refine OPS.call (d := some 36) rfl rfl rfl (EvC.func (fun_run rfl)) (lawAwake w) ?_
    rintro _ w ⟨rfl, hb⟩
    refine ⟨_, rfl, ?_⟩
    replace H := H.toBelow hb; clear hb
    refine OPS.val rfl rfl rfl (Ev.asB rfl) ?_
    refine OPS.nil ?_
    refine WP.ret ⟨_, rfl, ?_⟩
    exact ⟨rfl, H.below⟩
  have hv : ValidP n f t l amt cost on := by
    simp only [Bool.or_eq_false_iff, Bool.not_eq_false'] at hc1
    exact @of_decide_eq_true _ (Classical.propDecidable _) hc1.2
  obtain ⟨m, s, d, hE, hfl⟩ := hv.ends2
  refine WP.skip ?_
  refine WP.seq ?_
  refine WP.region ?_
  refine OPS.val rfl rfl rfl ((by exact Ev.loadO 1 H rfl (agg_run rfl) (size_run rfl) (by rfl) rfl)) ?_
  refine OPS.val rfl rfl rfl (Ev.mvI rfl) ?_
  refine OPS.val rfl rfl rfl (Ev.mvI rfl) ?_
  refine OPS.call (d := some 41) rfl rfl rfl (EvC.func (fun_run rfl)) (flowMost n f t A l cap w (hz.sh H)) ?_
  rintro _ w ⟨r, er, rfl, hM, Hc⟩
  refine ⟨_, rfl, ?_⟩
  replace H := H.toBelow Hc
  clear Hc
  obtain rfl := hM.1
  obtain ⟨m', hm', hmax⟩ := hM.2.2 hv.ends
  rw [hE.hf, hE.ht, show m' = m by have := hE.hn; omega] at hmax
  have hge := hmax.ge hE.net.nodes hE.s1 hfl
  refine OPS.val rfl rfl rfl (Ev.mvT rfl) ?_
  refine OPS.val rfl rfl rfl (Ev.extract rfl rfl) ?_
  refine OPS.val rfl rfl rfl (Ev.extract rfl rfl) ?_
  refine OPS.val rfl rfl rfl (Ev.asI rfl) ?_
  refine OPS.val rfl rfl rfl (Ev.asI rfl) ?_
  refine OPS.nil ?_
  refine WP.seq ?_
  refine WP.seq ?_
  refine WP.region ?_
  refine OPS.val rfl rfl rfl (Ev.mvI rfl) ?_
  refine OPS.val rfl rfl rfl (Ev.neq rfl rfl) ?_
  refine OPS.val rfl rfl rfl (Ev.mvB rfl) ?_
  refine OPS.gval rfl rfl rfl rfl rfl (fun hg => Ev.fieldAddr (fld_run rfl) (by rfl)) ?_
  refine OPS.gval rfl rfl rfl rfl rfl (fun hg => Ev.load1 (agg_run rfl) (by exact gvE hg rfl) (by exact H.ldL 0 rfl _ rfl)) ?_
  refine OPS.gval rfl rfl rfl rfl rfl (fun hg => Ev.mvI (by rfl)) ?_
  refine OPS.gval rfl rfl rfl rfl rfl (fun hg => Ev.gtr (by exact gvE hg rfl) (by exact gvE hg rfl)) ?_
  refine OPS.val rfl rfl rfl ((by exact Ev.pickOr rfl rfl rfl)) ?_
  refine OPS.nil ?_
  refine WP.cond rfl (fun hc4 => ?_) (fun hc4 => ?_)
  · refine WP.seq ?_
    refine WP.region ?_
    refine OPS.val rfl rfl rfl (Ev.asB rfl) ?_
    refine OPS.nil ?_
    refine WP.ret ⟨_, rfl, ?_⟩
    exfalso
    rw [hv.ends] at hc4
    simp at hc4
    omega
  refine WP.skip ?_
  refine WP.seq ?_
  refine WP.seq ?_
  refine WP.region ?_
  refine OPS.val rfl rfl rfl (Ev.fieldAddr (fld_run rfl) rfl) ?_
  refine OPS.val rfl rfl rfl (Ev.load1 (agg_run rfl) rfl (by exact H.ldL 0 rfl _ rfl)) ?_
  refine OPS.val rfl rfl rfl (Ev.gtr rfl rfl) ?_
  refine OPS.nil ?_
  refine WP.cond rfl (fun hc6 => ?_) (fun hc6 => ?_)
  · refine WP.seq ?_
    refine WP.region ?_
    refine OPS.call (d := some 55) rfl rfl rfl (EvC.func (fun_run rfl)) (lawAwake w) ?_
    rintro _ w ⟨rfl, hb⟩
    refine ⟨_, rfl, ?_⟩
    replace H := H.toBelow hb; clear hb
    refine OPS.val rfl rfl rfl (Ev.asB rfl) ?_
    refine OPS.nil ?_
    refine WP.ret ⟨_, rfl, ?_⟩
    exact ⟨rfl, H.below⟩
  have ha6 : amt ≤ 65536 := by simpa using hc6
  refine WP.skip ?_
  refine WP.seq ?_
  refine WP.region ?_
  refine OPS.val rfl rfl rfl ((by exact Ev.loadO 1 H rfl (agg_run rfl) (size_run rfl) (by rfl) rfl)) ?_
  refine OPS.val rfl rfl rfl (Ev.mvI rfl) ?_
  refine OPS.val rfl rfl rfl (Ev.mvI rfl) ?_
  refine OPS.val rfl rfl rfl (Ev.fieldAddr (fld_run rfl) rfl) ?_
  refine OPS.val rfl rfl rfl (Ev.load1 (agg_run rfl) rfl (by exact H.ldL 0 rfl _ rfl)) ?_
  refine OPS.call (d := some 62) rfl rfl rfl (EvC.func (fun_run rfl)) (flowCheapest2 n f t amt A l cap w (hz.sh H)) ?_
  rintro _ w ⟨most, a, c, er, B', Bp', on', pots', Lb, Lp, rfl, hR, hBo, hP, Hc⟩
  refine ⟨_, rfl, ?_⟩
  replace H := H.toBelow Hc.below
  clear Hc
  obtain ⟨_, rfl, hcc, hpp⟩ := hR.better hv ha6
  refine OPS.val rfl rfl rfl (Ev.mvT rfl) ?_
  refine OPS.val rfl rfl rfl (Ev.extract rfl rfl) ?_
  refine OPS.val rfl rfl rfl (Ev.extract rfl rfl) ?_
  refine OPS.alloc rfl rfl rfl rfl (zero_run rfl) rfl H ?_
  clear H; intro g11 w H
  refine OPS.store 0 _ rfl rfl rfl (size_run rfl) rfl (cA rfl) rfl rfl H rfl (by simp) ?_
  clear H; intro w H; try simp only [List.set_cons_zero, List.set_cons_succ, putL, Nat.zero_add] at H
  refine OPS.val rfl rfl rfl (Ev.asI rfl) ?_
  refine OPS.nil ?_
  refine WP.seq ?_
  refine WP.region ?_
  refine OPS.val rfl rfl rfl (Ev.mvI rfl) ?_
  refine OPS.val rfl rfl rfl (Ev.eql rfl rfl) ?_
  refine OPS.val rfl rfl rfl (Ev.mvB rfl) ?_
  refine OPS.gval rfl rfl rfl rfl rfl (fun hg => Ev.fieldAddr (fld_run rfl) (by rfl)) ?_
  refine OPS.gval rfl rfl rfl rfl rfl (fun hg => Ev.load1 (agg_run rfl) (by exact gvE hg rfl) (by exact H.ldL 0 rfl _ rfl)) ?_
  refine OPS.gval rfl rfl rfl rfl rfl (fun hg => Ev.fieldAddr (fld_run rfl) (by rfl)) ?_
  refine OPS.gval rfl rfl rfl rfl rfl (fun hg => Ev.load1 (agg_run rfl) (by exact gvE hg rfl) (by exact H.ldL 1 rfl _ rfl)) ?_
  refine OPS.gval rfl rfl rfl rfl rfl (fun hg => Ev.leq (by exact gvE hg rfl) (by exact gvE hg rfl)) ?_
  refine OPS.val rfl rfl rfl ((by exact Ev.pickAnd rfl rfl rfl)) ?_
  refine OPS.val rfl rfl rfl (Ev.mvB rfl) ?_
  refine OPS.gval rfl rfl rfl rfl rfl (fun hg => (by exact Ev.loadO 2 H rfl (agg_run rfl) (size_run rfl) (by rfl) rfl)) ?_
  refine OPS.gval rfl rfl rfl rfl rfl (fun hg => Ev.mvI (by rfl)) ?_
  refine OPS.gval rfl rfl rfl rfl rfl (fun hg => Ev.mvI (by rfl)) ?_
  refine OPS.gval rfl rfl rfl rfl rfl (fun hg => (by exact Ev.loadO 1 H rfl (agg_run rfl) (size_run rfl) (by rfl) rfl)) ?_
  refine OPS.gcall0 (f := 25) ((flowProved n f t amt cost A B Bp l on pots cap cap2 cap3 w (hz.sh H) (ho.sh H) (hp.sh H)).mono fun e w' ⟨b, he, hb, Hc⟩ => ⟨by rw [he, bool_dec hb], Hc⟩) (fun _ _ h => h) rfl rfl rfl rfl rfl (fun hg => EvC.conv (EvC.func (fun_run rfl)) (l4 (by exact gvE hg rfl) (by exact gvE hg rfl) (by exact gvE hg rfl) (by exact gvE hg rfl))) ?_
  intro w hbc; replace H := H.toBelow hbc
  refine OPS.gval rfl rfl rfl rfl rfl (fun hg => Ev.not (by exact gvE hg rfl)) ?_
  refine OPS.gval rfl rfl rfl rfl rfl (fun hg => Ev.mvB (by exact gvE hg rfl)) ?_
  refine OPS.gvalN rfl rfl (GB.g rfl) rfl rfl (fun hg => Ev.fieldAddr (fld_run rfl) (by rfl)) ?_
  refine OPS.gvalN rfl rfl (GB.g rfl) rfl rfl (fun hg => Ev.load1 (agg_run rfl) (by exact gvE hg rfl) (by exact H.ldL 0 rfl _ rfl)) ?_
  refine OPS.gvalN rfl rfl (GB.g rfl) rfl rfl (fun hg => Ev.fieldAddr (fld_run rfl) (by rfl)) ?_
  refine OPS.gvalN rfl rfl (GB.g rfl) rfl rfl (fun hg => Ev.load1 (agg_run rfl) (by exact gvE hg rfl) (by exact H.ldL 1 rfl _ rfl)) ?_
  refine OPS.gvalN rfl rfl (GB.g rfl) rfl rfl (fun hg => Ev.eql (by exact gvE hg rfl) (by exact gvE hg rfl)) ?_
  refine OPS.gval rfl rfl rfl rfl rfl (fun hg => (by exact Ev.pickOr2 (beqT hg) (gvE hg rfl) rfl rfl)) ?_
  refine OPS.val rfl rfl rfl ((by exact Ev.pickAnd rfl rfl rfl)) ?_
  refine OPS.val rfl rfl rfl (Ev.mvB rfl) ?_
  refine OPS.gcall0 (f := 11) (lawAwake w) (fun _ _ h => h) rfl rfl rfl rfl rfl (fun hg => (EvC.func (fun_run rfl))) ?_
  intro w hbc; replace H := H.toBelow hbc
  refine OPS.val rfl rfl rfl ((by exact Ev.pickAnd rfl rfl rfl)) ?_
  refine OPS.val rfl rfl rfl (Ev.asB rfl) ?_
  refine OPS.nil ?_
  refine WP.ret ⟨_, rfl, ?_⟩
  refine ⟨ret_true rfl ?_, H.below⟩
  by_cases hq : ProvedP n f t l amt cost on pots
  · have := hpp pots hq
    simp [this]
  · simp [hq, hcc]

set_option maxHeartbeats 1000000 in
theorem lawGrows (n f t amt : Int) (A : Option Addr) (l : List Arc) (cap : Nat) (w0 : World) (hz : ArcsAt w0 A l) :
    Calls Try.prog 9 #[.agg #[I n, .slice A l.length cap], I f, I t, I amt] w0 fun e w' => e = .returned (.bool true) ∧ Below w0.heap.size w0 w' := by
  have H := SH.refl w0
  refine Calls.ofWP Try.func9 rfl Try.results9 Try.ntmps9 rfl ?_
  refine WP.seq ?_
  refine WP.region ?_
  refine OPS.box rfl rfl rfl rfl (cA rfl) H ?_
  clear H; intro g4 w H
  refine OPS.val rfl rfl rfl (Ev.asB rfl) ?_
  refine OPS.nil ?_
  refine WP.seq ?_
  refine WP.seq ?_
  refine WP.region ?_
  refine OPS.val rfl rfl rfl ((by exact Ev.loadO 0 H rfl (agg_run rfl) (size_run rfl) (by rfl) rfl)) ?_
  refine OPS.call (d := some 16) rfl rfl rfl (EvC.func (fun_run rfl)) (refSmall n A l.length cap w) ?_
  rintro _ w ⟨rfl, hb⟩
  refine ⟨_, rfl, ?_⟩
  replace H := H.toBelow hb; clear hb
  refine OPS.val rfl rfl rfl (Ev.not rfl) ?_
  refine OPS.val rfl rfl rfl (Ev.mvB rfl) ?_
  refine OPS.gval rfl rfl rfl rfl rfl (fun hg => Ev.mvI (by rfl)) ?_
  refine OPS.gval rfl rfl rfl rfl rfl (fun hg => Ev.lss (by exact gvE hg rfl) (by rfl)) ?_
  refine OPS.val rfl rfl rfl ((by exact Ev.pickOr rfl rfl rfl)) ?_
  refine OPS.val rfl rfl rfl (Ev.mvB rfl) ?_
  refine OPS.gval rfl rfl rfl rfl rfl (fun hg => Ev.mvI (by rfl)) ?_
  refine OPS.gval rfl rfl rfl rfl rfl (fun hg => Ev.geq (by exact gvE hg rfl) (by rfl)) ?_
  refine OPS.val rfl rfl rfl ((by exact Ev.pickOr rfl rfl rfl)) ?_
  refine OPS.nil ?_
  refine WP.cond rfl (fun hc1 => ?_) (fun hc1 => ?_)
  · refine WP.seq ?_
    refine WP.region ?_
    refine OPS.call (d := some 26) rfl rfl rfl (EvC.func (fun_run rfl)) (lawAwake w) ?_
    rintro _ w ⟨rfl, hb⟩
    refine ⟨_, rfl, ?_⟩
    replace H := H.toBelow hb; clear hb
    refine OPS.val rfl rfl rfl (Ev.asB rfl) ?_
    refine OPS.nil ?_
    refine WP.ret ⟨_, rfl, ?_⟩
    exact ⟨rfl, H.below⟩
  have ha : 1 ≤ amt ∧ amt < 65536 := by simp at hc1; omega
  refine WP.skip ?_
  refine WP.seq ?_
  refine WP.region ?_
  refine OPS.val rfl rfl rfl ((by exact Ev.loadO 0 H rfl (agg_run rfl) (size_run rfl) (by rfl) rfl)) ?_
  refine OPS.val rfl rfl rfl (Ev.mvI rfl) ?_
  refine OPS.val rfl rfl rfl (Ev.mvI rfl) ?_
  refine OPS.val rfl rfl rfl (Ev.mvI rfl) ?_
  refine OPS.val rfl rfl rfl (Ev.sub rfl rfl (by unfold fits; omega)) ?_
  refine OPS.call (d := some 33) rfl rfl rfl (EvC.func (fun_run rfl)) (flowCheapest2 n f t (amt - 1) A l cap w (hz.sh H)) ?_
  rintro _ w ⟨most1, a1, c1, er1, B1, P1, on1, pots1, Lb1, Lp1, rfl, hR1, _, _, Hc⟩
  refine ⟨_, rfl, ?_⟩
  replace H := H.toBelow Hc.below
  clear Hc
  refine OPS.val rfl rfl rfl (Ev.mvT rfl) ?_
  refine OPS.val rfl rfl rfl (Ev.extract rfl rfl) ?_
  refine OPS.val rfl rfl rfl (Ev.extract rfl rfl) ?_
  refine OPS.alloc rfl rfl rfl rfl (zero_run rfl) rfl H ?_
  clear H; intro g9 w H
  refine OPS.store 0 _ rfl rfl rfl (size_run rfl) rfl (cA rfl) rfl rfl H rfl (by simp) ?_
  clear H; intro w H; try simp only [List.set_cons_zero, List.set_cons_succ, putL, Nat.zero_add] at H
  refine OPS.val rfl rfl rfl (Ev.asI rfl) ?_
  refine OPS.nil ?_
  refine WP.seq ?_
  refine WP.region ?_
  refine OPS.val rfl rfl rfl ((by exact Ev.loadO 1 H rfl (agg_run rfl) (size_run rfl) (by rfl) rfl)) ?_
  refine OPS.val rfl rfl rfl (Ev.mvI rfl) ?_
  refine OPS.val rfl rfl rfl (Ev.mvI rfl) ?_
  refine OPS.val rfl rfl rfl (Ev.mvI rfl) ?_
  refine OPS.call (d := some 41) rfl rfl rfl (EvC.func (fun_run rfl)) (flowCheapest2 n f t amt A l cap w (hz.sh H)) ?_
  rintro _ w ⟨most2, a2, c2, er2, B2, P2, on2, pots2, Lb2, Lp2, rfl, hR2, _, _, Hc⟩
  refine ⟨_, rfl, ?_⟩
  replace H := H.toBelow Hc.below
  clear Hc
  refine OPS.val rfl rfl rfl (Ev.mvT rfl) ?_
  refine OPS.val rfl rfl rfl (Ev.extract rfl rfl) ?_
  refine OPS.val rfl rfl rfl (Ev.extract rfl rfl) ?_
  refine OPS.alloc rfl rfl rfl rfl (zero_run rfl) rfl H ?_
  clear H; intro g11 w H
  refine OPS.store 0 _ rfl rfl rfl (size_run rfl) rfl (cA rfl) rfl rfl H rfl (by simp) ?_
  clear H; intro w H; try simp only [List.set_cons_zero, List.set_cons_succ, putL, Nat.zero_add] at H
  refine OPS.val rfl rfl rfl (Ev.asI rfl) ?_
  refine OPS.nil ?_
  refine WP.seq ?_
  refine WP.region ?_
  refine OPS.val rfl rfl rfl ((by exact Ev.loadO 2 H rfl (agg_run rfl) (size_run rfl) (by rfl) rfl)) ?_
  refine OPS.val rfl rfl rfl (Ev.mvI rfl) ?_
  refine OPS.val rfl rfl rfl (Ev.mvI rfl) ?_
  refine OPS.val rfl rfl rfl (Ev.mvI rfl) ?_
  refine OPS.val rfl rfl rfl (Ev.add rfl rfl (by unfold fits; omega)) ?_
  refine OPS.call (d := some 50) rfl rfl rfl (EvC.func (fun_run rfl)) (flowCheapest2 n f t (amt + 1) A l cap w (hz.sh H)) ?_
  rintro _ w ⟨most3, a3, c3, er3, B3, P3, on3, pots3, Lb3, Lp3, rfl, hR3, _, _, Hc⟩
  refine ⟨_, rfl, ?_⟩
  replace H := H.toBelow Hc.below
  clear Hc
  refine OPS.val rfl rfl rfl (Ev.mvT rfl) ?_
  refine OPS.val rfl rfl rfl (Ev.extract rfl rfl) ?_
  refine OPS.val rfl rfl rfl (Ev.extract rfl rfl) ?_
  refine OPS.alloc rfl rfl rfl rfl (zero_run rfl) rfl H ?_
  clear H; intro g13 w H
  refine OPS.store 0 _ rfl rfl rfl (size_run rfl) rfl (cA rfl) rfl rfl H rfl (by simp) ?_
  clear H; intro w H; try simp only [List.set_cons_zero, List.set_cons_succ, putL, Nat.zero_add] at H
  refine OPS.val rfl rfl rfl (Ev.asI rfl) ?_
  refine OPS.nil ?_
  refine WP.seq ?_
  refine WP.seq ?_
  refine WP.region ?_
  refine OPS.val rfl rfl rfl (Ev.mvI rfl) ?_
  refine OPS.val rfl rfl rfl (Ev.neq rfl rfl) ?_
  refine OPS.nil ?_
  refine WP.cond rfl (fun hc6 => ?_) (fun hc6 => ?_)
  · refine WP.seq ?_
    refine WP.region ?_
    refine OPS.val rfl rfl rfl (Ev.mvI rfl) ?_
    refine OPS.val rfl rfl rfl (Ev.neq rfl rfl) ?_
    refine OPS.val rfl rfl rfl (Ev.mvB rfl) ?_
    refine OPS.gval rfl rfl rfl rfl rfl (fun hg => Ev.mvI (by rfl)) ?_
    refine OPS.gval rfl rfl rfl rfl rfl (fun hg => Ev.eql (by exact gvE hg rfl) (by rfl)) ?_
    refine OPS.val rfl rfl rfl ((by exact Ev.pickOr rfl rfl rfl)) ?_
    refine OPS.val rfl rfl rfl (Ev.mvB rfl) ?_
    refine OPS.gcall0 (f := 11) (lawAwake w) (fun _ _ h => h) rfl rfl rfl rfl rfl (fun hg => (EvC.func (fun_run rfl))) ?_
    intro w hbc; replace H := H.toBelow hbc
    refine OPS.val rfl rfl rfl ((by exact Ev.pickAnd rfl rfl rfl)) ?_
    refine OPS.val rfl rfl rfl (Ev.asB rfl) ?_
    refine OPS.nil ?_
    refine WP.ret ⟨_, rfl, ?_⟩
    refine ⟨ret_true rfl ?_, H.below⟩
    by_cases hq : er2 = 0
    · have := hR1.back hR2 ha.1 hq
      simp [this]
    · simp [hq]
  have h3 : er3 = 0 := by simpa using hc6
  obtain ⟨rfl, rfl, g1, g2, g3, g4, g5⟩ := hR1.grows hR2 hR3 ha.1 h3
  refine WP.skip ?_
  refine WP.seq ?_
  refine WP.region ?_
  refine OPS.val rfl rfl rfl (Ev.mvI rfl) ?_
  refine OPS.val rfl rfl rfl (Ev.eql rfl rfl) ?_
  refine OPS.val rfl rfl rfl (Ev.mvB rfl) ?_
  refine OPS.gval rfl rfl rfl rfl rfl (fun hg => Ev.mvI (by rfl)) ?_
  refine OPS.gval rfl rfl rfl rfl rfl (fun hg => Ev.eql (by exact gvE hg rfl) (by rfl)) ?_
  refine OPS.val rfl rfl rfl ((by exact Ev.pickAnd rfl rfl rfl)) ?_
  refine OPS.val rfl rfl rfl (Ev.mvB rfl) ?_
  refine OPS.gval rfl rfl rfl rfl rfl (fun hg => Ev.fieldAddr (fld_run rfl) (by rfl)) ?_
  refine OPS.gval rfl rfl rfl rfl rfl (fun hg => Ev.load1 (agg_run rfl) (by exact gvE hg rfl) (by exact H.ldL 2 rfl _ rfl)) ?_
  refine OPS.gval rfl rfl rfl rfl rfl (fun hg => Ev.fieldAddr (fld_run rfl) (by rfl)) ?_
  refine OPS.gval rfl rfl rfl rfl rfl (fun hg => Ev.load1 (agg_run rfl) (by exact gvE hg rfl) (by exact H.ldL 1 rfl _ rfl)) ?_
  refine OPS.gval rfl rfl rfl rfl rfl (fun hg => Ev.leq (by exact gvE hg rfl) (by exact gvE hg rfl)) ?_
  refine OPS.val rfl rfl rfl ((by exact Ev.pickAnd rfl rfl rfl)) ?_
  refine OPS.val rfl rfl rfl (Ev.mvB rfl) ?_
  refine OPS.gval rfl rfl rfl rfl rfl (fun hg => Ev.fieldAddr (fld_run rfl) (by rfl)) ?_
  refine OPS.gval rfl rfl rfl rfl rfl (fun hg => Ev.load1 (agg_run rfl) (by exact gvE hg rfl) (by exact H.ldL 1 rfl _ rfl)) ?_
  refine OPS.gval rfl rfl rfl rfl rfl (fun hg => Ev.fieldAddr (fld_run rfl) (by rfl)) ?_
  refine OPS.gval rfl rfl rfl rfl rfl (fun hg => Ev.load1 (agg_run rfl) (by exact gvE hg rfl) (by exact H.ldL 2 rfl _ rfl)) ?_
  refine OPS.gval rfl rfl rfl rfl rfl (fun hg => Ev.sub (by exact gvE hg rfl) (by exact gvE hg rfl) (by unfold fits; omega)) ?_
  refine OPS.gval rfl rfl rfl rfl rfl (fun hg => Ev.fieldAddr (fld_run rfl) (by rfl)) ?_
  refine OPS.gval rfl rfl rfl rfl rfl (fun hg => Ev.load1 (agg_run rfl) (by exact gvE hg rfl) (by exact H.ldL 0 rfl _ rfl)) ?_
  refine OPS.gval rfl rfl rfl rfl rfl (fun hg => Ev.fieldAddr (fld_run rfl) (by rfl)) ?_
  refine OPS.gval rfl rfl rfl rfl rfl (fun hg => Ev.load1 (agg_run rfl) (by exact gvE hg rfl) (by exact H.ldL 1 rfl _ rfl)) ?_
  refine OPS.gval rfl rfl rfl rfl rfl (fun hg => Ev.sub (by exact gvE hg rfl) (by exact gvE hg rfl) (by unfold fits; omega)) ?_
  refine OPS.gval rfl rfl rfl rfl rfl (fun hg => Ev.leq (by exact gvE hg rfl) (by exact gvE hg rfl)) ?_
  refine OPS.val rfl rfl rfl ((by exact Ev.pickAnd rfl rfl rfl)) ?_
  refine OPS.val rfl rfl rfl (Ev.mvB rfl) ?_
  refine OPS.gcall0 (f := 11) (lawAwake w) (fun _ _ h => h) rfl rfl rfl rfl rfl (fun hg => (EvC.func (fun_run rfl))) ?_
  intro w hbc; replace H := H.toBelow hbc
  refine OPS.val rfl rfl rfl ((by exact Ev.pickAnd rfl rfl rfl)) ?_
  refine OPS.val rfl rfl rfl (Ev.asB rfl) ?_
  refine OPS.nil ?_
  refine WP.ret ⟨_, rfl, ?_⟩
  exact ⟨ret_true rfl (by simp [g1, g2]), H.below⟩
end Go.Proofs.Ythegjmgljolalaa
