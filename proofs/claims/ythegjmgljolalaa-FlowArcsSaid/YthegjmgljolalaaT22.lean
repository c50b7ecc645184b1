/-
  Walks: the reference's Most, Cut, Cost.
-/
import Derived.Test.YthegjmgljolalaaT21
import Derived.Test.YthegjmgljolalaaT15
set_option linter.all false
namespace Go.Proofs.Ythegjmgljolalaa
open Go Go.W Go.RowKit

theorem max_from {n s t : Nat} {l : List Arc} (hN : NetOk n l) (hs : s < n) (ht : t < n) (hst : s ≠ t) : ∀ (k : Nat) (on : List Int) (amt : Int), IsFlow n l s t on amt → 65536 * (l.length : Int) - amt ≤ k → ∃ mx, IsMax n l s t mx
  | 0, on, amt, hf, hk => ⟨amt, full_isMax hN.nodes hs ht hst hf fun on' amt' hf' => by have := amt_le hN ⟨by omega, by omega⟩ (by omega) hf'; omega⟩
  | k + 1, on, amt, hf, hk => by
    have hsp := reachFin_spec (s := s) (on := on) hN.nodes hf.v.len hs
    cases hkt : kn (reachFin l on n s) t with
    | false => exact ⟨amt, reached_isMax hN.nodes hs hsp hf hkt⟩
    | true =>
      obtain ⟨ks, _, hP⟩ := path_of hsp.tree n t ht hkt (hsp.pos t ht hkt).2
      obtain ⟨m1, m2, m3⟩ := pushMin_spec (reachFin l on n s) ks 1 (by omega) fun x hx => by obtain ⟨p, _, hE⟩ := hP.edge x hx; exact hE.room_pos
      exact max_from hN hs ht hst k _ _ (push_isFlow (by omega) hst hP m3 hf) (by omega)
theorem max_exists {n s t : Nat} {l : List Arc} (hN : NetOk n l) (hs : s < n) (ht : t < n) (hst : s ≠ t) : ∃ mx, IsMax n l s t mx :=
  max_from hN hs ht hst (65536 * l.length) _ 0 (zero_isFlow fun a ha => (hN.caps a ha).1.1) (by omega)
theorem IsMax.ge {n s t : Nat} {l : List Arc} {mx : Int} (h : IsMax n l s t mx) (hn : NodesOk n l) (hs : s < n) {on : List Int} {amt : Int} (hf : IsFlow n l s t on amt) : amt ≤ mx := by
  obtain ⟨_, S, h1, h2, h3⟩ := h
  rw [← h3]; exact weak_dual hf hn ⟨by omega, by omega⟩ h1 h2
theorem FillR.max {m s t : Nat} {l : List Arc} {on : List Int} {amt : Int} (h : FillR m s t l 33554432 on amt) (hN : NetOk m l) (hs : s < m) (ht : t < m) (hst : s ≠ t) : IsMax m l s t amt := by
  rcases h.fin with he | he
  · refine full_isMax hN.nodes hs ht hst h.flow fun on' amt' hf' => ?_
    have := amt_le hN ⟨by omega, by omega⟩ (by omega) hf'
    have := hN.len
    omega
  · exact he

theorem refMost (n f t : Int) (A : Option Addr) (l : List Arc) (cap : Nat) (w0 : World) (hz : ArcsAt w0 A l) :
    Calls Try.prog 16 #[.agg #[I n, .slice A l.length cap], I f, I t] w0 fun e w' => ∃ r er : Int, e = .returned (.tuple #[I r, I er]) ∧ MostRet n f t l r er ∧ Below w0.heap.size w0 w' := by
  have H := SH.refl w0
  refine Calls.ofWP Try.func16 rfl Try.results16 Try.ntmps16 rfl ?_
  refine WP.seq ?_
  refine WP.region ?_
  refine OPS.box rfl rfl rfl rfl (cA rfl) H ?_
  clear H; intro g3 w H
  refine OPS.val rfl rfl rfl (Ev.asI rfl) ?_
  refine OPS.val rfl rfl rfl (Ev.asI rfl) ?_
  refine OPS.nil ?_
  refine WP.seq ?_
  refine WP.seq ?_
  refine WP.region ?_
  refine OPS.val rfl rfl rfl ((by exact Ev.loadO 0 H rfl (agg_run rfl) (size_run rfl) (by rfl) rfl)) ?_
  refine OPS.val rfl rfl rfl (Ev.mvI rfl) ?_
  refine OPS.val rfl rfl rfl (Ev.mvI rfl) ?_
  refine OPS.call (d := some 15) rfl rfl rfl (EvC.func (fun_run rfl)) (refEnds n f t A l cap w (hz.sh H)) ?_
  rintro _ w ⟨rfl, hb⟩
  refine ⟨_, rfl, ?_⟩
  replace H := H.toBelow hb; clear hb
  refine OPS.val rfl rfl rfl (Ev.asI rfl) ?_
  refine OPS.nil ?_
  refine WP.seq ?_
  refine WP.region ?_
  refine OPS.val rfl rfl rfl (Ev.mvI rfl) ?_
  refine OPS.val rfl rfl rfl (Ev.neq rfl rfl) ?_
  refine OPS.nil ?_
  refine WP.cond rfl (fun hc2 => ?_) (fun hc2 => ?_)
  · refine WP.seq ?_
    refine WP.region ?_
    refine OPS.val rfl rfl rfl (Ev.mvI rfl) ?_
    refine OPS.val rfl rfl rfl (Ev.asI rfl) ?_
    refine OPS.val rfl rfl rfl (Ev.asI rfl) ?_
    refine OPS.nil ?_
    refine WP.ret ⟨_, rfl, ?_⟩
    have h : endsErr n l f t ≠ 0 := by simpa using hc2
    exact ⟨0, _, rfl, ⟨rfl, fun _ => rfl, fun h0 => absurd h0 h⟩, H.below⟩
  have h0 : endsErr n l f t = 0 := by simpa using hc2
  obtain ⟨m, s, d, hE⟩ := endsOk_of h0
  have e1 := hE.hn
  have e2 := hE.hf
  have e3 := hE.ht
  subst e1 e2 e3
  refine WP.skip ?_
  refine WP.seq ?_
  refine WP.region ?_
  refine OPS.val rfl rfl rfl ((by exact Ev.loadO 0 H rfl (agg_run rfl) (size_run rfl) (by rfl) rfl)) ?_
  refine OPS.val rfl rfl rfl (Ev.mvI rfl) ?_
  refine OPS.val rfl rfl rfl (Ev.mvI rfl) ?_
  refine OPS.call (d := some 23) rfl rfl rfl (EvC.func (fun_run rfl)) (refFilled m s d 33554432 A l cap w hE.net hE.s1 hE.d1 hE.ne (by omega) (hz.sh H)) ?_
  rintro _ w ⟨gon, on, amt, rfl, hF, Hc⟩
  refine ⟨_, rfl, ?_⟩
  replace H := SH.call (Lv := []) (by simpa using H) Hc
  clear Hc
  refine OPS.val rfl rfl rfl (Ev.mvT rfl) ?_
  refine OPS.val rfl rfl rfl (Ev.extract rfl rfl) ?_
  refine OPS.val rfl rfl rfl (Ev.extract rfl rfl) ?_
  refine OPS.val rfl rfl rfl (Ev.extract rfl rfl) ?_
  refine OPS.val rfl rfl rfl (Ev.asS rfl) ?_
  refine OPS.val rfl rfl rfl (Ev.asI rfl) ?_
  refine OPS.val rfl rfl rfl (Ev.asI rfl) ?_
  refine OPS.nil ?_
  refine WP.seq ?_
  refine WP.region ?_
  refine OPS.val rfl rfl rfl (Ev.mvI rfl) ?_
  refine OPS.val rfl rfl rfl (Ev.asI rfl) ?_
  refine OPS.val rfl rfl rfl (Ev.asI rfl) ?_
  refine OPS.nil ?_
  refine WP.ret ⟨_, rfl, ?_⟩
  exact ⟨amt, 0, rfl, ⟨h0.symm, fun h => absurd rfl h, fun _ => ⟨m, rfl, hF.max hE.net hE.s1 hE.d1 hE.ne⟩⟩, H.below⟩

set_option maxHeartbeats 1000000 in
theorem refCut (n f t : Int) (A : Option Addr) (l : List Arc) (cap : Nat) (w0 : World) (hz : ArcsAt w0 A l) :
    Calls Try.prog 18 #[.agg #[I n, .slice A l.length cap], I f, I t] w0 fun e w' => ∃ (C : Option Addr) (bs : List Bool), e = .returned (.tuple #[.slice C bs.length bs.length, I (endsErr n l f t)]) ∧
      (endsErr n l f t ≠ 0 → C = none ∧ bs = []) ∧ (endsErr n l f t = 0 → ∃ m s d : Nat, EndsOk n f t l m s d ∧ CutOk m s d l bs) ∧ ∃ Lc, OwnL 4 Bo C bs Lc ∧ SH w0 [] w' Lc := by
  have H := SH.refl w0
  refine Calls.ofWP Try.func18 rfl Try.results18 Try.ntmps18 rfl ?_
  refine WP.seq ?_
  refine WP.region ?_
  refine OPS.box rfl rfl rfl rfl (cA rfl) H ?_
  clear H; intro g3 w H
  refine OPS.val rfl rfl rfl (Ev.asS rfl) ?_
  refine OPS.val rfl rfl rfl (Ev.asI rfl) ?_
  refine OPS.nil ?_
  refine WP.seq ?_
  refine WP.seq ?_
  refine WP.region ?_
  refine OPS.val rfl rfl rfl ((by exact Ev.loadO 0 H rfl (agg_run rfl) (size_run rfl) (by rfl) rfl)) ?_
  refine OPS.val rfl rfl rfl (Ev.mvI rfl) ?_
  refine OPS.val rfl rfl rfl (Ev.mvI rfl) ?_
  refine OPS.call (d := some 19) rfl rfl rfl (EvC.func (fun_run rfl)) (refEnds n f t A l cap w (hz.sh H)) ?_
  rintro _ w ⟨rfl, hb⟩
  refine ⟨_, rfl, ?_⟩
  replace H := H.toBelow hb; clear hb
  refine OPS.val rfl rfl rfl (Ev.asI rfl) ?_
  refine OPS.nil ?_
  refine WP.seq ?_
  refine WP.region ?_
  refine OPS.val rfl rfl rfl (Ev.mvI rfl) ?_
  refine OPS.val rfl rfl rfl (Ev.neq rfl rfl) ?_
  refine OPS.nil ?_
  refine WP.cond rfl (fun hc2 => ?_) (fun hc2 => ?_)
  · refine WP.seq ?_
    refine WP.region ?_
    refine OPS.val rfl rfl rfl (Ev.mvI rfl) ?_
    refine OPS.val rfl rfl rfl (Ev.asS rfl) ?_
    refine OPS.val rfl rfl rfl (Ev.asI rfl) ?_
    refine OPS.nil ?_
    refine WP.ret ⟨_, rfl, ?_⟩
    have h : endsErr n l f t ≠ 0 := by simpa using hc2
    exact ⟨none, [], rfl, fun _ => ⟨rfl, rfl⟩, fun h0 => absurd h0 h, [], OwnL.nil, H.reidx [] (by decide) rfl⟩
  have h0 : endsErr n l f t = 0 := by simpa using hc2
  obtain ⟨m, s, d, hE⟩ := endsOk_of h0
  have e1 := hE.hn
  have e2 := hE.hf
  have e3 := hE.ht
  subst e1 e2 e3
  have hN := hE.net
  have hn2 := hN.n2
  have hll := hN.len
  refine WP.skip ?_
  refine WP.seq ?_
  refine WP.region ?_
  refine OPS.val rfl rfl rfl ((by exact Ev.loadO 0 H rfl (agg_run rfl) (size_run rfl) (by rfl) rfl)) ?_
  refine OPS.val rfl rfl rfl (Ev.mvI rfl) ?_
  refine OPS.val rfl rfl rfl (Ev.mvI rfl) ?_
  refine OPS.call (d := some 27) rfl rfl rfl (EvC.func (fun_run rfl)) (refFilled m s d 33554432 A l cap w hE.net hE.s1 hE.d1 hE.ne (by omega) (hz.sh H)) ?_
  rintro _ w ⟨gon, on, amt, rfl, hF, Hc⟩
  refine ⟨_, rfl, ?_⟩
  replace H := SH.call (Lv := []) (by simpa using H) Hc
  clear Hc
  have hmax := hF.max hE.net hE.s1 hE.d1 hE.ne
  have hfl := hF.flow
  have hol := hfl.v.len
  obtain ⟨pots, hpl, hp0, hop⟩ := hF.opt
  obtain ⟨nst, ndist, nrk, hnr⟩ := near_exists hN.nodes hll (fun a ha => (hN.caps a ha).2) hop hol hE.s1 hp0
  have hsp := hnr.sp hp0 fun a ha => (hN.caps a ha).2
  refine OPS.val rfl rfl rfl (Ev.mvT rfl) ?_
  refine OPS.val rfl rfl rfl (Ev.extract rfl rfl) ?_
  refine OPS.val rfl rfl rfl (Ev.extract rfl rfl) ?_
  refine OPS.val rfl rfl rfl (Ev.extract rfl rfl) ?_
  refine OPS.val rfl rfl rfl (Ev.asS rfl) ?_
  refine OPS.val rfl rfl rfl (Ev.asI rfl) ?_
  refine OPS.val rfl rfl rfl (Ev.asI rfl) ?_
  refine OPS.nil ?_
  refine WP.seq ?_
  refine WP.region ?_
  refine OPS.val rfl rfl rfl ((by exact Ev.loadO 0 H rfl (agg_run rfl) (size_run rfl) (by rfl) rfl)) ?_
  refine OPS.val rfl rfl rfl (Ev.mvS rfl) ?_
  refine OPS.val rfl rfl rfl (Ev.mvI rfl) ?_
  have hch := refCheap m s A (some ⟨gon, 0, none⟩) l on cap l.length _ _ _ w hN hE.s1 hfl.v (hz.sh H) (onesOwn H 1 rfl) hsp
  rw [hol] at hch
  refine OPS.call (d := some 35) rfl rfl rfl (EvC.func (fun_run rfl)) (hch) ?_
  rintro _ w ⟨gd, gs, dd, stp, T, rfl, hcr, Hc⟩
  refine ⟨_, rfl, ?_⟩
  replace H := SH.call (L1 := [_, _]) (Lv := []) (by simpa using H) Hc
  clear Hc hch
  replace H := H.reidx (L' := [⟨gd, 3, dd.map I⟩, ⟨g3, 24, [I m, .slice A l.length cap]⟩]) [2, 0] (by decide) rfl
  have hdl := hcr.dlen
  have hbl : (dd.map fun x => decide (x < farI)).length = (List.replicate m false).length := by simp [hdl]
  have hbl2 : (dd.map fun x => decide (x < farI)).length = m := by simp [hdl]
  refine OPS.val rfl rfl rfl (Ev.mvT rfl) ?_
  refine OPS.val rfl rfl rfl (Ev.extract rfl rfl) ?_
  refine OPS.val rfl rfl rfl (Ev.extract rfl rfl) ?_
  refine OPS.val rfl rfl rfl (Ev.asS rfl) ?_
  refine OPS.val rfl rfl rfl (Ev.asS rfl) ?_
  refine OPS.nil ?_
  refine WP.seq ?_
  refine WP.region ?_
  refine OPS.val rfl rfl rfl (Ev.fieldAddr (fld_run rfl) rfl) ?_
  refine OPS.val rfl rfl rfl (Ev.load1 (agg_run rfl) rfl (by exact H.ldL 1 rfl _ rfl)) ?_
  refine OPS.makeSlice rfl rfl rfl rfl (sl_run rfl) rfl rfl rfl (by omega) (by omega) H ?_
  clear H; intro g40 w H
  refine OPS.val rfl rfl rfl (Ev.asS rfl) ?_
  refine OPS.nil ?_
  refine WP.seq ?_
  refine WP.seq ?_
  refine WP.region ?_
  refine OPS.val rfl rfl rfl (Ev.asI rfl) ?_
  refine OPS.nil ?_
  refine WP.block ?_
  refine WP.loop [15, 41, 42, 43, 44, 45, 46, 47, 48, 49, 50, 51, 52, 53, 54] (fun k e w' => ∃ q : Nat, q + k = m ∧ e 15 = I q ∧ SH w0 [] w' [⟨g40, 4, (mixL (dd.map fun x => decide (x < farI)) (List.replicate m false) q).map Bo⟩, ⟨gd, 3, dd.map I⟩, ⟨g3, 24, [I m, .slice A l.length cap]⟩]) (m) (⟨0, by omega, rfl, by rw [mixL_zero, ← mkL_ones]; exact H⟩) ?_
  clear H
  rintro k u w ⟨q, hq, h15, H⟩
  refine WP.know (t := 15) h15 ?_
  refine WP.seq ?_
  refine WP.seq ?_
  refine WP.region ?_
  refine OPS.val rfl rfl rfl (Ev.mvI rfl) ?_
  refine OPS.val rfl rfl rfl (Ev.fieldAddr (fld_run rfl) rfl) ?_
  refine OPS.val rfl rfl rfl (Ev.load1 (agg_run rfl) rfl (by exact H.ldL 2 rfl _ rfl)) ?_
  refine OPS.val rfl rfl rfl (Ev.lss rfl rfl) ?_
  refine OPS.nil ?_
  refine WP.cond rfl (fun hc8 => ?_) (fun hc8 => ?_)
  · have hqm : q < m := by simp at hc8; omega
    have hml : (mixL (dd.map fun x => decide (x < farI)) (List.replicate m false) q).length = m := by rw [mixL_length hbl (by omega)]; omega
    have hms := mixL_set (m := List.replicate m false) hbl (show q < (dd.map fun x => decide (x < farI)).length by omega)
    rw [List.getElem_map] at hms
    refine WP.skip ?_
    refine WP.seq ?_
    refine WP.block ?_
    refine WP.region ?_
    obtain ⟨_, _, e1, hdc⟩ := onesOwn H 1 rfl q (by omega)
    cases e1
    refine OPS.val rfl rfl rfl (Ev.mvS rfl) ?_
    refine OPS.val rfl rfl rfl (Ev.mvI rfl) ?_
    refine OPS.val rfl rfl rfl (Ev.mvS rfl) ?_
    refine OPS.val rfl rfl rfl (Ev.mvI rfl) ?_
    refine OPS.val rfl rfl rfl ((by exact Ev.indexAddr1 (el_run rfl) (size_run rfl) rfl rfl rfl (by omega))) ?_
    refine OPS.val rfl rfl rfl (Ev.load1 (agg_run rfl) rfl (by assumption)) ?_
    refine OPS.val rfl rfl rfl (Ev.lss rfl rfl) ?_
    refine OPS.val rfl rfl rfl ((by exact Ev.indexAddr1 (el_run rfl) (size_run rfl) rfl rfl rfl (by omega))) ?_
    have hpu : putL ((mixL (dd.map fun x => decide (x < farI)) (List.replicate m false) q).map Bo) (0 + q) [Bo (decide (dd[q] < farI))] = (mixL (dd.map fun x => decide (x < farI)) (List.replicate m false) (q + 1)).map Bo := by rw [Nat.zero_add, putL_ones, hms]
    refine OPS.store (vs := [Bo (decide (dd[q] < farI))]) 0 _ rfl rfl rfl (size_run rfl) rfl (cB rfl) rfl rfl H rfl (by simp only [List.length_map, hml]; omega) ?_
    clear H; intro w H
    simp only [List.set_cons_zero, List.set_cons_succ] at H
    rw [hpu] at H
    refine OPS.nil ?_
    refine WP.region ?_
    refine OPS.val rfl rfl rfl (Ev.mvI rfl) ?_
    refine OPS.val rfl rfl rfl (Ev.add rfl rfl (by unfold fits; omega)) ?_
    refine OPS.val rfl rfl rfl (Ev.asI rfl) ?_
    refine OPS.nil ?_
    exact ⟨(by repeat (first | exact Agree.refl _ _ | exact Agree.mix _ _ _ | refine Agree.upd rfl ?_ | refine Agree.mix2 rfl ?_)), k - 1, by omega, q + 1, by omega, rfl, H⟩
  refine WP.exit ?_
  refine XB.hit ?_
  refine WP.seq ?_
  refine WP.region ?_
  refine OPS.val rfl rfl rfl (Ev.mvS rfl) ?_
  refine OPS.val rfl rfl rfl (Ev.asS rfl) ?_
  refine OPS.val rfl rfl rfl (Ev.asI rfl) ?_
  refine OPS.nil ?_
  refine WP.ret ⟨_, rfl, ?_⟩
  have hqm : q = m := by simp at hc8; omega
  have hma : mixL (dd.map fun x => decide (x < farI)) (List.replicate m false) m = dd.map fun x => decide (x < farI) := by
    have h := mixL_all hbl
    rw [hbl2] at h
    exact h
  rw [hqm, hma] at H
  have hR : ∀ v, v < m → (dd.map fun x => decide (x < farI)).getD v false = kn nst v := fun v hv => by
    have hvv : dAt dd v = dd[v]'(by omega) := by simp [dAt, hdl, hv]
    have e : (dd.map fun x => decide (x < farI)).getD v false = decide (dd[v]'(by omega) < farI) := by simp [hdl, hv]
    rw [e, ← hvv]
    cases hk : kn nst v with
    | true => have := hcr.kd v hv hk; simp only [decide_eq_true_eq]; omega
    | false => have := hcr.unk v hv hk; simp only [decide_eq_false_iff_not]; omega
  have hrs := hcr.resSet hN.nodes hol hE.s1
  refine ⟨some ⟨g40, 0, none⟩, dd.map fun x => decide (x < farI), by rw [hbl2, h0]; rfl, fun h => absurd h0 h, fun _ => ⟨m, s, d, hE, hbl2, on, amt, kn nst, hfl, hmax, hrs, ?_, hR⟩, _, OwnL.mk g40 _, H.reidx [0] (by decide) rfl⟩
  cases hk : kn nst d with
  | false => rfl
  | true =>
    obtain ⟨ks, hkl, _, hP, hks⟩ := hcr.path m d hE.d1 hk (hcr.tb d hE.d1 hk).2
    obtain ⟨m1, m2, m3⟩ := pushMin_spec (stp.map (rstep l on)) ks 1 (by omega) fun x hx => by obtain ⟨p, _, hEd⟩ := hP.edge x hx; exact hEd.room_pos
    have := hmax.ge hN.nodes hE.s1 (push_isFlow (by omega) hE.ne hP m3 hfl)
    omega

/-- what Cost returns -/
structure CostRet (n f t amt : Int) (l : List Arc) (most c er : Int) : Prop where
  mst : MostRet n f t l most (endsErr n l f t)
  err : er = cheapErr n f t amt l most
  bad : er ≠ 0 → c = 0
  good : er = 0 → ∃ m s d : Nat, EndsOk n f t l m s d ∧ IsLeast m l s d amt c
theorem refCost (n f t amt : Int) (A : Option Addr) (l : List Arc) (cap : Nat) (w0 : World) (hz : ArcsAt w0 A l) :
    Calls Try.prog 21 #[.agg #[I n, .slice A l.length cap], I f, I t, I amt] w0 fun e w' => ∃ most c er : Int, e = .returned (.tuple #[I c, I er]) ∧ CostRet n f t amt l most c er ∧ Below w0.heap.size w0 w' := by
  have H := SH.refl w0
  refine Calls.ofWP Try.func21 rfl Try.results21 Try.ntmps21 rfl ?_
  refine WP.seq ?_
  refine WP.region ?_
  refine OPS.box rfl rfl rfl rfl (cA rfl) H ?_
  clear H; intro g4 w H
  refine OPS.val rfl rfl rfl (Ev.asI rfl) ?_
  refine OPS.val rfl rfl rfl (Ev.asI rfl) ?_
  refine OPS.nil ?_
  refine WP.seq ?_
  refine WP.seq ?_
  refine WP.region ?_
  refine OPS.val rfl rfl rfl ((by exact Ev.loadO 0 H rfl (agg_run rfl) (size_run rfl) (by rfl) rfl)) ?_
  refine OPS.val rfl rfl rfl (Ev.mvI rfl) ?_
  refine OPS.val rfl rfl rfl (Ev.mvI rfl) ?_
  refine OPS.call (d := some 17) rfl rfl rfl (EvC.func (fun_run rfl)) (refEnds n f t A l cap w (hz.sh H)) ?_
  rintro _ w ⟨rfl, hb⟩
  refine ⟨_, rfl, ?_⟩
  replace H := H.toBelow hb; clear hb
  refine OPS.val rfl rfl rfl (Ev.asI rfl) ?_
  refine OPS.nil ?_
  refine WP.seq ?_
  refine WP.region ?_
  refine OPS.val rfl rfl rfl (Ev.mvI rfl) ?_
  refine OPS.val rfl rfl rfl (Ev.neq rfl rfl) ?_
  refine OPS.nil ?_
  refine WP.cond rfl (fun hc2 => ?_) (fun hc2 => ?_)
  · refine WP.seq ?_
    refine WP.region ?_
    refine OPS.val rfl rfl rfl (Ev.mvI rfl) ?_
    refine OPS.val rfl rfl rfl (Ev.asI rfl) ?_
    refine OPS.val rfl rfl rfl (Ev.asI rfl) ?_
    refine OPS.nil ?_
    refine WP.ret ⟨_, rfl, ?_⟩
    have h : endsErr n l f t ≠ 0 := by simpa using hc2
    exact ⟨0, 0, _, rfl, ⟨⟨rfl, fun _ => rfl, fun h0 => absurd h0 h⟩, by rw [cheapErr, if_pos h], fun _ => rfl, fun h0 => absurd h0 h⟩, H.below⟩
  have h0 : endsErr n l f t = 0 := by simpa using hc2
  obtain ⟨m, s, d, hE⟩ := endsOk_of h0
  have e1 := hE.hn
  have e2 := hE.hf
  have e3 := hE.ht
  subst e1 e2 e3
  have hN := hE.net
  obtain ⟨mx, hmx⟩ := max_exists hN hE.s1 hE.d1 hE.ne
  have hMR : MostRet m s d l mx (endsErr m l s d) := ⟨rfl, fun h => absurd h0 h, fun _ => ⟨m, rfl, hmx⟩⟩
  refine WP.skip ?_
  refine WP.seq ?_
  refine WP.seq ?_
  refine WP.region ?_
  refine OPS.val rfl rfl rfl (Ev.mvI rfl) ?_
  refine OPS.val rfl rfl rfl (Ev.lss rfl rfl) ?_
  refine OPS.val rfl rfl rfl (Ev.mvB rfl) ?_
  refine OPS.gval rfl rfl rfl rfl rfl (fun hg => Ev.mvI (by rfl)) ?_
  refine OPS.gval rfl rfl rfl rfl rfl (fun hg => Ev.gtr (by exact gvE hg rfl) (by rfl)) ?_
  refine OPS.val rfl rfl rfl ((by exact Ev.pickOr rfl rfl rfl)) ?_
  refine OPS.nil ?_
  refine WP.cond rfl (fun hc4 => ?_) (fun hc4 => ?_)
  · refine WP.seq ?_
    refine WP.region ?_
    refine OPS.val rfl rfl rfl (Ev.asI rfl) ?_
    refine OPS.val rfl rfl rfl (Ev.asI rfl) ?_
    refine OPS.nil ?_
    refine WP.ret ⟨_, rfl, ?_⟩
    exact ⟨mx, 0, 1, rfl, ⟨hMR, by rw [cheapErr, if_neg (by simp [h0]), if_pos hc4], fun _ => rfl, fun h => by cases h⟩, H.below⟩
  have ham : 0 ≤ amt ∧ amt ≤ 65536 := by simp at hc4; omega
  refine WP.skip ?_
  refine WP.seq ?_
  refine WP.region ?_
  refine OPS.val rfl rfl rfl ((by exact Ev.loadO 0 H rfl (agg_run rfl) (size_run rfl) (by rfl) rfl)) ?_
  refine OPS.val rfl rfl rfl (Ev.mvI rfl) ?_
  refine OPS.val rfl rfl rfl (Ev.mvI rfl) ?_
  refine OPS.val rfl rfl rfl (Ev.mvI rfl) ?_
  refine OPS.call (d := some 32) rfl rfl rfl (EvC.func (fun_run rfl)) (refFilled m s d amt A l cap w hE.net hE.s1 hE.d1 hE.ne (by omega) (hz.sh H)) ?_
  rintro _ w ⟨gon, on, got, rfl, hF, Hc⟩
  refine ⟨_, rfl, ?_⟩
  replace H := SH.call (Lv := []) (by simpa using H) Hc
  clear Hc
  have hge := hmx.ge hN.nodes hE.s1 hF.flow
  refine OPS.val rfl rfl rfl (Ev.mvT rfl) ?_
  refine OPS.val rfl rfl rfl (Ev.extract rfl rfl) ?_
  refine OPS.val rfl rfl rfl (Ev.extract rfl rfl) ?_
  refine OPS.val rfl rfl rfl (Ev.extract rfl rfl) ?_
  refine OPS.val rfl rfl rfl (Ev.asS rfl) ?_
  refine OPS.val rfl rfl rfl (Ev.asI rfl) ?_
  refine OPS.val rfl rfl rfl (Ev.asI rfl) ?_
  refine OPS.nil ?_
  refine WP.seq ?_
  refine WP.seq ?_
  refine WP.region ?_
  refine OPS.val rfl rfl rfl (Ev.mvI rfl) ?_
  refine OPS.val rfl rfl rfl (Ev.mvI rfl) ?_
  refine OPS.val rfl rfl rfl (Ev.lss rfl rfl) ?_
  refine OPS.nil ?_
  refine WP.cond rfl (fun hc7 => ?_) (fun hc7 => ?_)
  · refine WP.seq ?_
    refine WP.region ?_
    refine OPS.val rfl rfl rfl (Ev.asI rfl) ?_
    refine OPS.val rfl rfl rfl (Ev.asI rfl) ?_
    refine OPS.nil ?_
    refine WP.ret ⟨_, rfl, ?_⟩
    have hlt : got < amt := by simpa using hc7
    have hm2 : mx = got := by
      rcases hF.fin with he | he
      · omega
      · exact IsMax.unique hN.nodes ⟨by omega, by have := hE.s1; omega⟩ hmx he
    exact ⟨mx, 0, 15, rfl, ⟨hMR, by rw [cheapErr, if_neg (by simp [h0]), if_neg (by simp [hc4]), if_pos (by omega)], fun _ => rfl, fun h => by cases h⟩, H.below⟩
  refine WP.skip ?_
  refine WP.seq ?_
  refine WP.region ?_
  refine OPS.val rfl rfl rfl (Ev.mvI rfl) ?_
  refine OPS.val rfl rfl rfl (Ev.asI rfl) ?_
  refine OPS.val rfl rfl rfl (Ev.asI rfl) ?_
  refine OPS.nil ?_
  refine WP.ret ⟨_, rfl, ?_⟩
  have hga : got = amt := by simp at hc7; have := hF.le; omega
  subst hga
  obtain ⟨pots, _, _, hop⟩ := hF.opt
  exact ⟨mx, costOf l on, 0, rfl, ⟨hMR, by rw [cheapErr, if_neg (by simp [h0]), if_neg (by simp [hc4]), if_neg (by omega)], fun h => absurd rfl h, fun _ => ⟨m, s, d, hE, least_of hF.flow hop hN.nodes ⟨by omega, by have := hE.s1; omega⟩ ⟨by omega, by have := hE.d1; omega⟩ (by have := hE.ne; omega)⟩⟩, H.below⟩
end Go.Proofs.Ythegjmgljolalaa
