/-
  Walks: the reference's filled, Most, Cut, Cost.
-/
import Derived.Test.YthegjmgljolalaaT20
import Derived.Test.YthegjmgljolalaaT14
set_option linter.all false
namespace Go.Proofs.Ythegjmgljolalaa
open Go Go.W Go.RowKit

/-- what filled returns -/
structure FillR (m s t : Nat) (l : List Arc) (most : Int) (on : List Int) (amt : Int) : Prop where
  flow : IsFlow m l s t on amt
  opt : ∃ pots : List Int, pots.length = m ∧ pots.getD s 0 = 0 ∧ OptPot (potF pots) l on
  le : 0 ≤ amt ∧ amt ≤ most
  fin : amt = most ∨ IsMax m l s t amt
theorem costOf_bd' {n : Nat} {l : List Arc} {on : List Int} (hN : NetOk n l) (hV : VFlow l on) : 0 ≤ costOf l on ∧ costOf l on ≤ 2199023255552 := by
  have h := costOf_bd hN hV l.length (Nat.le_refl _)
  rw [List.take_length, ← hV.len, List.take_length, hV.len] at h
  have := hN.len
  omega

theorem costOf_zero : ∀ l : List Arc, costOf l (List.replicate l.length 0) = 0
  | [] => rfl
  | a :: l => by simp only [List.length_cons, List.replicate_succ, costOf]; rw [costOf_zero l]; simp
theorem zget (m s : Nat) : (List.replicate m (0 : Int)).getD s 0 = 0 := by by_cases h : s < m <;> simp [h]

set_option maxHeartbeats 2000000 in
theorem refFilled (m s t : Nat) (most : Int) (A : Option Addr) (l : List Arc) (cap : Nat) (w0 : World) (hN : NetOk m l) (hs : s < m) (ht : t < m) (hst : s ≠ t) (hmo : 0 ≤ most ∧ most ≤ 33554432) (hz : ArcsAt w0 A l) :
    Calls Try.prog 32 #[.agg #[I m, .slice A l.length cap], I s, I t, I most] w0 fun e w' => ∃ (gon : Nat) (on : List Int) (amt : Int), e = .returned (.tuple #[.slice (some ⟨gon, 0, none⟩) l.length l.length, I amt, I (costOf l on)]) ∧ FillR m s t l most on amt ∧ SH w0 [] w' [⟨gon, 3, on.map I⟩] := by
  have H := SH.refl w0
  have hn2 := hN.n2
  have hll := hN.len
  refine Calls.ofWP Try.func32 rfl Try.results32 Try.ntmps32 rfl ?_
  refine WP.seq ?_
  refine WP.region ?_
  refine OPS.box rfl rfl rfl rfl (cA rfl) H ?_
  clear H; intro g4 w H
  refine OPS.val rfl rfl rfl (Ev.asS rfl) ?_
  refine OPS.val rfl rfl rfl (Ev.asI rfl) ?_
  refine OPS.val rfl rfl rfl (Ev.asI rfl) ?_
  refine OPS.nil ?_
  refine WP.seq ?_
  refine WP.region ?_
  refine OPS.val rfl rfl rfl (Ev.fieldAddr (fld_run rfl) rfl) ?_
  refine OPS.val rfl rfl rfl (Ev.load1 (agg_run rfl) rfl (by exact H.ldL 0 rfl _ rfl)) ?_
  refine OPS.val rfl rfl rfl (Ev.len (el_run rfl) rfl) ?_
  refine OPS.makeSlice rfl rfl rfl rfl (sl_run rfl) rfl rfl rfl (by omega) (by omega) H ?_
  clear H; intro g20 w H
  refine OPS.val rfl rfl rfl (Ev.asS rfl) ?_
  refine OPS.nil ?_
  refine WP.seq ?_
  refine WP.region ?_
  refine OPS.val rfl rfl rfl (Ev.asI rfl) ?_
  refine OPS.val rfl rfl rfl (Ev.asI rfl) ?_
  refine OPS.nil ?_
  refine WP.seq ?_
  refine WP.block ?_
  refine WP.loop [12, 13, 14, 15, 16, 21, 22, 23, 24, 25, 26, 27, 28, 29, 30, 31, 32, 33, 34, 35, 36, 37, 38, 39, 40, 41, 42, 43, 44, 45, 46, 47, 48, 49, 50, 51, 52, 53, 54, 55, 56, 57, 58, 59, 60, 61, 62] (fun k e w' => ∃ (on pots : List Int) (amt : Int), on.length = l.length ∧ e 12 = I amt ∧ e 13 = I (costOf l on) ∧ IsFlow m l s t on amt ∧ pots.length = m ∧ pots.getD s 0 = 0 ∧ OptPot (potF pots) l on ∧ 0 ≤ amt ∧ amt ≤ most ∧ amt + k = most ∧ SH w0 [] w' [⟨g20, 3, on.map I⟩, ⟨g4, 24, [I m, .slice A l.length cap]⟩]) (most.toNat) (⟨List.replicate l.length 0, List.replicate m 0, 0, by simp, rfl, by rw [costOf_zero]; rfl, zero_isFlow fun a ha => (hN.caps a ha).1.1, by simp, zget m s, zero_opt fun a ha => (hN.caps a ha).2.1, by omega, hmo.1, by omega, by rw [← mkL_ones]; exact H⟩) ?_
  clear H
  rintro k u w ⟨on, pots, amt, hol, h12, h13, hfl, hpl, hp0, hop, ha0, ha1, hk, H⟩
  refine WP.know (t := 12) h12 (WP.know (t := 13) h13 ?_)
  have hcb := costOf_bd' hN hfl.v
  refine WP.seq ?_
  refine WP.seq ?_
  refine WP.region ?_
  refine OPS.val rfl rfl rfl (Ev.mvI rfl) ?_
  refine OPS.val rfl rfl rfl (Ev.mvI rfl) ?_
  refine OPS.val rfl rfl rfl (Ev.lss rfl rfl) ?_
  refine OPS.nil ?_
  refine WP.cond rfl (fun hc3 => ?_) (fun hc3 => ?_)
  · have hlt : amt < most := by simpa using hc3
    obtain ⟨nst, ndist, nrk, hnr⟩ := near_exists hN.nodes hll (fun a ha => (hN.caps a ha).2) hop hol hs hp0
    have hsp := hnr.sp hp0 fun a ha => (hN.caps a ha).2
    have hob : ∀ i (h : i < on.length), 0 ≤ on[i] ∧ on[i] ≤ 65536 := fun i h => by
      have h1 := hfl.v.bd i (by omega) h
      have h2 := (hN.caps l[i] (List.getElem_mem (by omega))).1
      omega
    refine WP.skip ?_
    refine WP.block ?_
    refine WP.seq ?_
    refine WP.region ?_
    refine OPS.val rfl rfl rfl ((by exact Ev.loadO 1 H rfl (agg_run rfl) (size_run rfl) (by rfl) rfl)) ?_
    refine OPS.val rfl rfl rfl (Ev.mvS rfl) ?_
    refine OPS.val rfl rfl rfl (Ev.mvI rfl) ?_
    have hch := refCheap m s A (some ⟨g20, 0, none⟩) l on cap l.length _ _ _ w hN hs hfl.v (hz.sh H) (onesOwn H 0 rfl) hsp
    rw [hol] at hch
    refine OPS.call (d := some 28) rfl rfl rfl (EvC.func (fun_run rfl)) (hch) ?_
    rintro _ w ⟨gd, gs, d, stp, T, rfl, hcr, Hc⟩
    refine ⟨_, rfl, ?_⟩
    replace H := SH.call (L1 := [⟨g20, 3, on.map I⟩, ⟨g4, 24, [I m, .slice A l.length cap]⟩]) (Lv := []) (by simpa using H) Hc
    clear Hc hch
    simp only [List.cons_append, List.nil_append] at H
    have hdl := hcr.dlen
    have hsl := hcr.stlen
    have hdt : dAt d t = d[t]'(by omega) := by simp [dAt, hdl, ht]
    refine OPS.val rfl rfl rfl (Ev.mvT rfl) ?_
    refine OPS.val rfl rfl rfl (Ev.extract rfl rfl) ?_
    refine OPS.val rfl rfl rfl (Ev.extract rfl rfl) ?_
    refine OPS.val rfl rfl rfl (Ev.asS rfl) ?_
    refine OPS.val rfl rfl rfl (Ev.asS rfl) ?_
    refine OPS.nil ?_
    refine WP.seq ?_
    refine WP.seq ?_
    refine WP.region ?_
    obtain ⟨_, _, e1, hdc⟩ := onesOwn H 2 rfl t (by omega)
    cases e1
    refine OPS.val rfl rfl rfl (Ev.mvS rfl) ?_
    refine OPS.val rfl rfl rfl (Ev.mvI rfl) ?_
    refine OPS.val rfl rfl rfl ((by exact Ev.indexAddr1 (el_run rfl) (size_run rfl) rfl rfl rfl (by omega))) ?_
    refine OPS.val rfl rfl rfl (Ev.load1 (agg_run rfl) rfl (by assumption)) ?_
    refine OPS.val rfl rfl rfl (Ev.geq rfl rfl) ?_
    refine OPS.nil ?_
    refine WP.cond rfl (fun hc5 => ?_) (fun hc5 => ?_)
    · have hkf : kn nst t = false := by
        cases hk2 : kn nst t with
        | false => rfl
        | true =>
          have := hcr.kd t ht hk2
          rw [hdt] at this
          simp at hc5
          unfold farI at this; omega
      have hend : amt = most ∨ IsMax m l s t amt := .inr (res_isMax hN.nodes hs hfl (hcr.resSet hN.nodes hol hs) hkf)
      refine WP.exit ?_
      refine XB.miss rfl ?_
      refine XB.hit ?_
      refine WP.seq ?_
      refine WP.region ?_
      refine OPS.val rfl rfl rfl (Ev.mvS rfl) ?_
      refine OPS.val rfl rfl rfl (Ev.mvI rfl) ?_
      refine OPS.val rfl rfl rfl (Ev.mvI rfl) ?_
      refine OPS.val rfl rfl rfl (Ev.asS rfl) ?_
      refine OPS.val rfl rfl rfl (Ev.asI rfl) ?_
      refine OPS.val rfl rfl rfl (Ev.asI rfl) ?_
      refine OPS.nil ?_
      refine WP.ret ⟨_, rfl, ?_⟩
      exact ⟨g20, on, amt, rfl, ⟨hfl, ⟨pots, hpl, hp0, hop⟩, ⟨ha0, ha1⟩, hend⟩, by exact H.reidx [0] (by decide) rfl⟩
    have hkt : kn nst t = true := by
      cases hk2 : kn nst t with
      | true => rfl
      | false =>
        have := hcr.unk t ht hk2
        rw [hdt] at this
        simp at hc5
        unfold farI at this; omega
    obtain ⟨ks, hkl, hR, hP, hks⟩ := hcr.path m t ht hkt (hcr.tb t ht hkt).2
    obtain ⟨m1, m2, m3⟩ := pushMin_spec (stp.map (rstep l on)) ks (most - amt) (by omega) fun x hx => by obtain ⟨p, _, hE⟩ := hP.edge x hx; exact hE.room_pos
    have hfl2 := push_isFlow (by omega) hst hP m3 hfl
    have hop2 := CR.push_opt hnr hcr hop hN.nodes hpl hol hks (pushMin (stp.map (rstep l on)) ks (most - amt))
    have hpc := hcr.push_cost hfl.v hP hks (by omega) m3
    have hDt := (hcr.kd t ht hkt).1
    have hDb := hsp.bd t ht hkt
    have hpb := costOf_bd' hN hfl2.v
    rw [← hDt, hdt] at hpc
    have hnl := newL_length nst ndist (farTo nst ndist m) pots
    have hn0 : (newL nst ndist (farTo nst ndist m) pots).getD s 0 = 0 := by rw [newL_at (by omega), if_pos hnr.src.1, hnr.src.2, hp0]; rfl
    have hrm := fun w (H : SH w0 [] w [⟨g20, 3, on.map I⟩, ⟨g4, 24, [I m, .slice A l.length cap]⟩, ⟨gd, 3, d.map I⟩, ⟨gs, 3, stp.map I⟩]) => refRoom m s t (most - amt) A (some ⟨g20, 0, none⟩) (some ⟨gs, 0, none⟩) l on stp cap l.length m ks w hN hfl.v (hz.sh H) (onesOwn H 0 rfl) (onesOwn H 3 rfl) hsl hR hkl
    rw [hol, hsl] at hrm
    generalize hMM : pushMin (stp.map (rstep l on)) ks (most - amt) = M at *
    refine WP.skip ?_
    refine WP.seq ?_
    refine WP.region ?_
    refine OPS.val rfl rfl rfl ((by exact Ev.loadO 1 H rfl (agg_run rfl) (size_run rfl) (by rfl) rfl)) ?_
    refine OPS.val rfl rfl rfl (Ev.mvS rfl) ?_
    refine OPS.val rfl rfl rfl (Ev.mvS rfl) ?_
    refine OPS.val rfl rfl rfl (Ev.mvI rfl) ?_
    refine OPS.val rfl rfl rfl (Ev.mvI rfl) ?_
    refine OPS.val rfl rfl rfl (Ev.mvI rfl) ?_
    refine OPS.val rfl rfl rfl (Ev.mvI rfl) ?_
    refine OPS.val rfl rfl rfl (Ev.sub rfl rfl (by unfold fits; omega)) ?_
    refine OPS.call (d := some 44) rfl rfl rfl (EvC.func (fun_run rfl)) (hrm w H) ?_
    rintro _ w ⟨rfl, hb⟩
    refine ⟨_, rfl, ?_⟩
    replace H := H.toBelow hb; clear hb
    refine OPS.val rfl rfl rfl (Ev.asI rfl) ?_
    refine OPS.nil ?_
    refine WP.seq ?_
    refine WP.region ?_
    refine OPS.val rfl rfl rfl ((by exact Ev.loadO 1 H rfl (agg_run rfl) (size_run rfl) (by rfl) rfl)) ?_
    refine OPS.val rfl rfl rfl (Ev.mvS rfl) ?_
    refine OPS.val rfl rfl rfl (Ev.mvS rfl) ?_
    refine OPS.val rfl rfl rfl (Ev.mvI rfl) ?_
    refine OPS.val rfl rfl rfl (Ev.mvI rfl) ?_
    refine OPS.val rfl rfl rfl (Ev.mvI rfl) ?_
    have hgs : gs ≠ g20 := by have := H.nodup; simp at this; exact fun he => by subst he; simp at this
    have hpu := refPush g20 m s t M A (some ⟨gs, 0, none⟩) l on on stp cap l.length m ks w hN hol (hz.sh H) (hz.off (fun _ => by simp [arcCells]) (fun g hg => by simp at hg; rw [hg]; exact H.fresh g20 (by simp))) (onesOwn H 3 rfl) (fun _ b o he => by cases he; simpa using hgs) hsl hR hkl (by omega) (fun i h => by have := hob i h; omega) ((H.reidx (L' := [⟨g20, 3, on.map I⟩]) [0] (by decide) rfl).restart (List.Sublist.refl _))
    rw [hol, hsl] at hpu
    refine OPS.call (d := some 51) rfl rfl rfl (EvC.func (fun_run rfl)) (hpu) ?_
    rintro _ w ⟨rfl, Hc⟩
    refine ⟨_, rfl, ?_⟩
    replace H := SH.call (L1 := [⟨g4, 24, [I m, .slice A l.length cap]⟩, ⟨gd, 3, d.map I⟩, ⟨gs, 3, stp.map I⟩]) (Lv := [⟨g20, 3, on.map I⟩]) (H.reidx [1, 2, 3, 0] (by decide) rfl) Hc
    clear Hc hpu
    refine OPS.nil ?_
    refine WP.rstill mixed (by kernel_rfl) H ?_
    clear H; intro w hbw8 H
    obtain ⟨_, _, e1, hdc⟩ := onesOwn H 1 rfl t (by omega)
    cases e1
    refine OPS.val rfl rfl rfl (Ev.mvI rfl) ?_
    refine OPS.val rfl rfl rfl (Ev.mvI rfl) ?_
    refine OPS.val rfl rfl rfl (Ev.add rfl rfl (by unfold fits; omega)) ?_
    refine OPS.val rfl rfl rfl (Ev.mvI rfl) ?_
    refine OPS.val rfl rfl rfl (Ev.mvI rfl) ?_
    refine OPS.val rfl rfl rfl (Ev.mvS rfl) ?_
    refine OPS.val rfl rfl rfl (Ev.mvI rfl) ?_
    refine OPS.val rfl rfl rfl ((by exact Ev.indexAddr1 (el_run rfl) (size_run rfl) rfl rfl rfl (by omega))) ?_
    refine OPS.val rfl rfl rfl (Ev.load1 (agg_run rfl) rfl (by assumption)) ?_
    refine OPS.val rfl rfl rfl (Ev.mul rfl rfl (by unfold fits; omega)) ?_
    refine OPS.val rfl rfl rfl (Ev.add rfl rfl (by unfold fits; omega)) ?_
    refine OPS.val rfl rfl rfl (Ev.asI rfl) ?_
    refine OPS.val rfl rfl rfl (Ev.asI rfl) ?_
    refine OPS.nil_s ?_
    exact ⟨(by repeat (first | exact Agree.refl _ _ | exact Agree.mix _ _ _ | refine Agree.upd rfl ?_ | refine Agree.mix2 rfl ?_)), k - M.toNat, by omega, _, _, amt + M, by rw [pushOn_length]; exact hol, rfl, by rw [hpc]; rfl, hfl2, by rw [hnl]; exact hpl, hn0, hop2, by omega, by omega, by omega, H.reidx [3, 0] (by decide) rfl⟩
  have hend : amt = most ∨ IsMax m l s t amt := .inl (by simp at hc3; omega)
  refine WP.exit ?_
  refine XB.hit ?_
  refine WP.seq ?_
  refine WP.region ?_
  refine OPS.val rfl rfl rfl (Ev.mvS rfl) ?_
  refine OPS.val rfl rfl rfl (Ev.mvI rfl) ?_
  refine OPS.val rfl rfl rfl (Ev.mvI rfl) ?_
  refine OPS.val rfl rfl rfl (Ev.asS rfl) ?_
  refine OPS.val rfl rfl rfl (Ev.asI rfl) ?_
  refine OPS.val rfl rfl rfl (Ev.asI rfl) ?_
  refine OPS.nil ?_
  refine WP.ret ⟨_, rfl, ?_⟩
  exact ⟨g20, on, amt, rfl, ⟨hfl, ⟨pots, hpl, hp0, hop⟩, ⟨ha0, ha1⟩, hend⟩, by exact H.reidx [0] (by decide) rfl⟩
end Go.Proofs.Ythegjmgljolalaa
