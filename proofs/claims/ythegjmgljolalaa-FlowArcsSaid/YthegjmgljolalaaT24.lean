/-
  Walks: example, awake.
-/
import Derived.Test.YthegjmgljolalaaM11
import Derived.Test.YthegjmgljolalaaT23
set_option linter.all false
namespace Go.Proofs.Ythegjmgljolalaa
open Go Go.W Go.RowKit

theorem flowCheapest2 (n f t amt : Int) (A : Option Addr) (l : List Arc) (cap : Nat) (w0 : World) (hz : ArcsAt w0 A l) :
    Calls Try.prog 20 #[.agg #[I n, .slice A l.length cap], I f, I t, I amt] w0 fun e w' => ∃ (most a c er : Int) (B Bp : Option Addr) (on pots : List Int) (Lb Lp : List Blk), e = .returned (.tuple #[.agg #[I a, I c, .slice B on.length on.length, .slice Bp pots.length pots.length], I er]) ∧
      CheapRet n f t amt l most a c er on pots ∧ OwnL 3 I B on Lb ∧ OwnL 3 I Bp pots Lp ∧ SH w0 [] w' (Lb ++ Lp) := by
  refine (flowCheapest n f t amt A l cap w0 hz).mono fun e w' ⟨most, hM, hr⟩ => ?_
  rcases hr with ⟨h1, rfl, hb⟩ | ⟨h1, m, s, d, go, gp, on, pots, hE, hc, rfl, H⟩
  · exact ⟨most, 0, 0, _, none, none, [], [], [], [], rfl, ⟨hM, rfl, fun _ => ⟨rfl, rfl, rfl, rfl⟩, fun h => absurd h h1⟩, OwnL.nil, OwnL.nil, (SH.refl w0).toBelow hb⟩
  · exact ⟨most, amt, costOf l on, 0, some ⟨go, 0, none⟩, some ⟨gp, 0, none⟩, on, pots, _, _, rfl, ⟨hM, h1.symm, fun h => absurd rfl h, fun _ => ⟨m, s, d, hE, (cheapErr_ends h1).1, hc, rfl, rfl⟩⟩, OwnL.mk _ _, OwnL.mk _ _, H⟩

theorem lawExample (w0 : World) : Calls Try.prog 27 #[] w0 fun e w' => ∃ g : Nat, e = .returned (.agg #[I 4, .slice (some ⟨g, 0, none⟩) exL.length 5]) ∧ SH w0 [] w' [⟨g, 46, exL.flatMap arcCells⟩] := by
  have H := SH.refl w0
  refine Calls.ofWPc Try.func27 rfl Try.results27 Try.ntmps27 rfl ?_
  refine WP.seq ?_
  refine WP.region ?_
  refine OPS.alloc rfl rfl rfl rfl (zero_run rfl) rfl H ?_
  clear H; intro g0 w H
  refine OPS.nil ?_
  refine WP.seq ?_
  refine WP.region ?_
  refine OPS.val rfl rfl rfl (Ev.build (bld_46_0_1_2_3 rfl rfl rfl rfl)) ?_
  refine OPS.val rfl rfl rfl (Ev.build (bld_46_0_1_2_3 rfl rfl rfl rfl)) ?_
  refine OPS.val rfl rfl rfl (Ev.build (bld_46_0_1_2 rfl rfl rfl)) ?_
  refine OPS.val rfl rfl rfl (Ev.build (bld_46_0_1_2_3 rfl rfl rfl rfl)) ?_
  refine OPS.val rfl rfl rfl (Ev.build (bld_46_0_1_2_3 rfl rfl rfl rfl)) ?_
  refine OPS.buildSlice rfl rfl rfl rfl (bsl_22_5_0_1_2_3_4 rfl rfl rfl rfl rfl) H ?_
  clear H; intro g6 w H
  refine OPS.val rfl rfl rfl (Ev.build (bld_24_0_1 rfl rfl)) ?_
  refine OPS.store 1 _ rfl rfl rfl (size_run rfl) rfl (cA rfl) rfl rfl H rfl (by simp) ?_
  clear H; intro w H; try simp only [List.set_cons_zero, List.set_cons_succ, putL, Nat.zero_add] at H
  refine OPS.nil ?_
  refine WP.ret ⟨[_], ⟨(by exact resCellA 1 H rfl (agg_run rfl) (size_run rfl) (by rfl) rfl), trivial⟩, ?_⟩
  exact ⟨g6, rfl, H.reidx [0] (by decide) rfl⟩

set_option maxHeartbeats 1000000 in
theorem lawAwake (w0 : World) : Calls Try.prog 11 #[] w0 fun e w' => e = .returned (.bool true) ∧ Below w0.heap.size w0 w' := by
  have H := SH.refl w0
  refine Calls.ofWP Try.func11 rfl Try.results11 Try.ntmps11 rfl ?_
  refine WP.seq ?_
  refine WP.region ?_
  refine OPS.val rfl rfl rfl (Ev.asB rfl) ?_
  refine OPS.nil ?_
  refine WP.seq ?_
  refine WP.region ?_
  refine OPS.call (d := some 14) rfl rfl rfl (EvC.func (fun_run rfl)) (lawExample w0) ?_
  rintro _ w ⟨g, rfl, Hc⟩
  refine ⟨_, rfl, ?_⟩
  replace H := SH.call (L1 := []) (Lv := []) H Hc
  clear Hc
  refine OPS.alloc rfl rfl rfl rfl (zero_run rfl) rfl H ?_
  clear H; intro g1 w H
  refine OPS.store 0 _ rfl rfl rfl (size_run rfl) rfl (cA rfl) rfl rfl H rfl (by simp) ?_
  clear H; intro w H; try simp only [List.set_cons_zero, List.set_cons_succ, putL, Nat.zero_add] at H
  refine OPS.nil ?_
  replace H : SH w0 [] w ([⟨g1, 24, [I 4, .slice (some ⟨g, 0, none⟩) exL.length 5]⟩, ⟨g, 46, exL.flatMap arcCells⟩] ++ []) := by simpa using H
  have hzz : ∀ (w : World) (R : List Blk) (i : Nat), SH w0 [] w R → R[i]? = some ⟨g, 46, exL.flatMap arcCells⟩ → ArcsAt w (some ⟨g, 0, none⟩) exL := fun w R i H hi => rowsOwn' (enc := arcCells) (sz := 4) (l := exL) (fun _ => rfl) H i hi
  refine WP.seq ?_
  refine WP.region ?_
  refine OPS.val rfl rfl rfl ((by exact Ev.loadO 0 H rfl (agg_run rfl) (size_run rfl) (by rfl) rfl)) ?_
  refine OPS.call (d := some 17) rfl rfl rfl (EvC.func (fun_run rfl)) (flowMost 4 0 3 (some ⟨g, 0, none⟩) exL 5 w (hzz w _ 1 H rfl)) ?_
  rintro _ w ⟨r, er, rfl, hM, Hc⟩
  refine ⟨_, rfl, ?_⟩
  replace H := H.toBelow Hc
  clear Hc
  obtain rfl : er = 0 := hM.1.trans exEnds
  obtain rfl := exMost hM
  refine OPS.val rfl rfl rfl (Ev.mvT rfl) ?_
  refine OPS.val rfl rfl rfl (Ev.extract rfl rfl) ?_
  refine OPS.val rfl rfl rfl (Ev.extract rfl rfl) ?_
  refine OPS.val rfl rfl rfl (Ev.asI rfl) ?_
  refine OPS.val rfl rfl rfl (Ev.asI rfl) ?_
  refine OPS.nil ?_
  refine WP.seq ?_
  refine WP.region ?_
  refine OPS.val rfl rfl rfl ((by exact Ev.loadO 0 H rfl (agg_run rfl) (size_run rfl) (by rfl) rfl)) ?_
  refine OPS.call (d := some 22) rfl rfl rfl (EvC.func (fun_run rfl)) (flowCut 4 0 3 (some ⟨g, 0, none⟩) exL 5 w (hzz w _ 1 H rfl)) ?_
  rintro _ w ⟨C, bs, rfl, _, hcut, Lc, hB, Hc⟩
  refine ⟨_, rfl, ?_⟩
  replace H := SH.call (L1 := [_, _]) (Lv := []) H Hc
  clear Hc
  obtain rfl := exCut (hcut exEnds)
  refine OPS.val rfl rfl rfl (Ev.mvT rfl) ?_
  refine OPS.val rfl rfl rfl (Ev.extract rfl rfl) ?_
  refine OPS.val rfl rfl rfl (Ev.extract rfl rfl) ?_
  refine OPS.val rfl rfl rfl (Ev.asS rfl) ?_
  refine OPS.val rfl rfl rfl (Ev.asI rfl) ?_
  refine OPS.nil ?_
  refine WP.seq ?_
  refine WP.region ?_
  refine OPS.val rfl rfl rfl ((by exact Ev.loadO 0 H rfl (agg_run rfl) (size_run rfl) (by rfl) rfl)) ?_
  refine OPS.call (d := some 27) rfl rfl rfl (EvC.func (fun_run rfl)) (flowCheapest2 4 0 3 1 (some ⟨g, 0, none⟩) exL 5 w (hzz w _ 1 H rfl)) ?_
  rintro _ w ⟨most, a1, c1, er1, B1, P1, on1, pots1, Lb1, Lp1, rfl, hR1, _, _, Hc⟩
  refine ⟨_, rfl, ?_⟩
  replace H := H.toBelow Hc.below
  clear Hc
  obtain ⟨rfl, rfl, rfl, _, _⟩ := exCheap hR1 (by decide) exLeast1
  refine OPS.val rfl rfl rfl (Ev.mvT rfl) ?_
  refine OPS.val rfl rfl rfl (Ev.extract rfl rfl) ?_
  refine OPS.val rfl rfl rfl (Ev.extract rfl rfl) ?_
  refine OPS.alloc rfl rfl rfl rfl (zero_run rfl) rfl H ?_
  clear H; intro g6 w H
  refine OPS.store 0 _ rfl rfl rfl (size_run rfl) rfl (cA rfl) rfl rfl H rfl (by simp) ?_
  clear H; intro w H; try simp only [List.set_cons_zero, List.set_cons_succ, putL, Nat.zero_add] at H
  refine OPS.val rfl rfl rfl (Ev.asI rfl) ?_
  refine OPS.nil ?_
  refine WP.seq ?_
  refine WP.region ?_
  refine OPS.val rfl rfl rfl ((by exact Ev.loadO 1 H rfl (agg_run rfl) (size_run rfl) (by rfl) rfl)) ?_
  refine OPS.call (d := some 32) rfl rfl rfl (EvC.func (fun_run rfl)) (flowCheapest2 4 0 3 4 (some ⟨g, 0, none⟩) exL 5 w (hzz w _ 2 H rfl)) ?_
  rintro _ w ⟨most4, a4, c4, er4, B4, P4, on4, pots4, Lb4, Lp4, rfl, hR4, hB4, hP4, Hc⟩
  refine ⟨_, rfl, ?_⟩
  replace H := SH.call (Lv := []) (by rw [List.append_nil]; exact H) Hc
  clear Hc
  obtain ⟨rfl, rfl, rfl, hv4, hp4⟩ := exCheap hR4 (by decide) exLeast4
  refine OPS.val rfl rfl rfl (Ev.mvT rfl) ?_
  refine OPS.val rfl rfl rfl (Ev.extract rfl rfl) ?_
  refine OPS.val rfl rfl rfl (Ev.extract rfl rfl) ?_
  refine OPS.alloc rfl rfl rfl rfl (zero_run rfl) rfl H ?_
  clear H; intro g8 w H
  refine OPS.store 0 _ rfl rfl rfl (size_run rfl) rfl (cA rfl) rfl rfl H rfl (by simp) ?_
  clear H; intro w H; try simp only [List.set_cons_zero, List.set_cons_succ, putL, Nat.zero_add] at H
  refine OPS.val rfl rfl rfl (Ev.asI rfl) ?_
  refine OPS.nil ?_
  refine WP.seq ?_
  refine WP.region ?_
  refine OPS.val rfl rfl rfl ((by exact Ev.loadO 2 H rfl (agg_run rfl) (size_run rfl) (by rfl) rfl)) ?_
  refine OPS.call (d := some 37) rfl rfl rfl (EvC.func (fun_run rfl)) (flowCheapest2 4 0 3 5 (some ⟨g, 0, none⟩) exL 5 w (hzz w _ 3 H rfl)) ?_
  rintro _ w ⟨most5, a5, c5, er5, B5, P5, on5, pots5, Lb5, Lp5, rfl, hR5, _, _, Hc⟩
  refine ⟨_, rfl, ?_⟩
  replace H := H.toBelow Hc.below
  clear Hc
  obtain rfl := exCheap5 hR5
  refine OPS.val rfl rfl rfl (Ev.mvT rfl) ?_
  refine OPS.val rfl rfl rfl (Ev.extract rfl rfl) ?_
  refine OPS.val rfl rfl rfl (Ev.extract rfl rfl) ?_
  refine OPS.alloc rfl rfl rfl rfl (zero_run rfl) rfl H ?_
  clear H; intro g10 w H
  refine OPS.store 0 _ rfl rfl rfl (size_run rfl) rfl (cA rfl) rfl rfl H rfl (by simp) ?_
  clear H; intro w H; try simp only [List.set_cons_zero, List.set_cons_succ, putL, Nat.zero_add] at H
  refine OPS.val rfl rfl rfl (Ev.asI rfl) ?_
  refine OPS.nil ?_
  refine WP.seq ?_
  refine WP.region ?_
  refine OPS.val rfl rfl rfl ((by exact Ev.loadO 3 H rfl (agg_run rfl) (size_run rfl) (by rfl) rfl)) ?_
  refine OPS.call (d := some 42) rfl rfl rfl (EvC.func (fun_run rfl)) (flowMost 4 3 0 (some ⟨g, 0, none⟩) exL 5 w (hzz w _ 4 H rfl)) ?_
  rintro _ w ⟨r0, er0, rfl, hM0, Hc⟩
  refine ⟨_, rfl, ?_⟩
  replace H := H.toBelow Hc
  clear Hc
  obtain rfl : er0 = 0 := hM0.1.trans exEnds2
  obtain rfl := exMost2 hM0
  refine OPS.val rfl rfl rfl (Ev.mvT rfl) ?_
  refine OPS.val rfl rfl rfl (Ev.extract rfl rfl) ?_
  refine OPS.val rfl rfl rfl (Ev.extract rfl rfl) ?_
  refine OPS.val rfl rfl rfl (Ev.asI rfl) ?_
  refine OPS.val rfl rfl rfl (Ev.asI rfl) ?_
  refine OPS.nil ?_
  refine WP.seq ?_
  refine WP.seq ?_
  refine WP.region ?_
  refine OPS.val rfl rfl rfl (Ev.mvI rfl) ?_
  refine OPS.val rfl rfl rfl (Ev.neq rfl rfl) ?_
  refine OPS.val rfl rfl rfl (Ev.mvB rfl) ?_
  refine OPS.gval rfl rfl rfl rfl rfl (fun hg => Ev.mvI (by rfl)) ?_
  refine OPS.gval rfl rfl rfl rfl rfl (fun hg => Ev.neq (by exact gvE hg rfl) (by rfl)) ?_
  refine OPS.val rfl rfl rfl ((by exact Ev.pickOr rfl rfl rfl)) ?_
  refine OPS.val rfl rfl rfl (Ev.mvB rfl) ?_
  refine OPS.gval rfl rfl rfl rfl rfl (fun hg => Ev.mvI (by rfl)) ?_
  refine OPS.gval rfl rfl rfl rfl rfl (fun hg => Ev.neq (by exact gvE hg rfl) (by rfl)) ?_
  refine OPS.val rfl rfl rfl ((by exact Ev.pickOr rfl rfl rfl)) ?_
  refine OPS.val rfl rfl rfl (Ev.mvB rfl) ?_
  refine OPS.gval rfl rfl rfl rfl rfl (fun hg => Ev.mvI (by rfl)) ?_
  refine OPS.gval rfl rfl rfl rfl rfl (fun hg => Ev.neq (by exact gvE hg rfl) (by rfl)) ?_
  refine OPS.val rfl rfl rfl ((by exact Ev.pickOr rfl rfl rfl)) ?_
  refine OPS.val rfl rfl rfl (Ev.mvB rfl) ?_
  refine OPS.gval rfl rfl rfl rfl rfl (fun hg => Ev.mvI (by rfl)) ?_
  refine OPS.gval rfl rfl rfl rfl rfl (fun hg => Ev.neq (by exact gvE hg rfl) (by rfl)) ?_
  refine OPS.val rfl rfl rfl ((by exact Ev.pickOr rfl rfl rfl)) ?_
  refine OPS.val rfl rfl rfl (Ev.mvB rfl) ?_
  refine OPS.gval rfl rfl rfl rfl rfl (fun hg => Ev.mvI (by rfl)) ?_
  refine OPS.gval rfl rfl rfl rfl rfl (fun hg => Ev.neq (by exact gvE hg rfl) (by rfl)) ?_
  refine OPS.val rfl rfl rfl ((by exact Ev.pickOr rfl rfl rfl)) ?_
  refine OPS.val rfl rfl rfl (Ev.mvB rfl) ?_
  refine OPS.gval rfl rfl rfl rfl rfl (fun hg => Ev.mvI (by rfl)) ?_
  refine OPS.gval rfl rfl rfl rfl rfl (fun hg => Ev.neq (by exact gvE hg rfl) (by rfl)) ?_
  refine OPS.val rfl rfl rfl ((by exact Ev.pickOr rfl rfl rfl)) ?_
  refine OPS.nil ?_
  refine WP.cond rfl (fun hc8 => ?_) (fun hc8 => ?_)
  · refine WP.seq ?_
    refine WP.region ?_
    refine OPS.val rfl rfl rfl (Ev.asB rfl) ?_
    refine OPS.nil ?_
    refine WP.ret ⟨_, rfl, ?_⟩
    exact absurd hc8 (by decide)
  refine WP.skip ?_
  refine WP.seq ?_
  refine WP.region ?_
  refine OPS.val rfl rfl rfl (Ev.mvI rfl) ?_
  refine OPS.val rfl rfl rfl (Ev.eql rfl rfl) ?_
  refine OPS.val rfl rfl rfl (Ev.mvB rfl) ?_
  refine OPS.gyes rfl rfl rfl rfl ?_
  refine OPS.val rfl rfl rfl (Ev.mvS rfl) ?_
  refine OPS.gyes rfl rfl rfl rfl ?_
  refine OPS.buildSlice rfl rfl rfl rfl (bsl_31_4_0_1_2_3 rfl rfl rfl rfl) H ?_
  clear H; intro g75 w H
  have hBa : BoolsAt w C [true, true, false, false] := hB.rd H fun b hb => by simp [hb]
  have hBb : BoolsAt w (some ⟨g75, 0, none⟩) [true, true, false, false] := onesOwn H 0 rfl
  refine OPS.gyes rfl rfl rfl rfl ?_
  refine OPS.call (d := some 76) rfl rfl rfl (EvC.func (fun_run rfl)) (refBools C (some ⟨g75, 0, none⟩) [true, true, false, false] [true, true, false, false] 4 4 w hBa hBb (by decide)) ?_
  rintro _ w ⟨rfl, Hc⟩; refine ⟨_, rfl, ?_⟩
  replace H := H.toBelow Hc
  clear Hc hBa hBb
  refine OPS.val rfl rfl rfl (Ev.pickT (v := .bool true) rfl rfl rfl) ?_
  refine OPS.val rfl rfl rfl (Ev.mvB rfl) ?_
  refine OPS.gval rfl rfl rfl rfl rfl (fun hg => Ev.fieldAddr (fld_run rfl) (by rfl)) ?_
  refine OPS.gval rfl rfl rfl rfl rfl (fun hg => Ev.load1 (agg_run rfl) (by exact gvE hg rfl) (by exact H.ldL 3 rfl _ rfl)) ?_
  refine OPS.gval rfl rfl rfl rfl rfl (fun hg => Ev.eql (by exact gvE hg rfl) (by rfl)) ?_
  refine OPS.val rfl rfl rfl ((by exact Ev.pickAnd rfl rfl rfl)) ?_
  refine OPS.val rfl rfl rfl (Ev.mvB rfl) ?_
  refine OPS.gval rfl rfl rfl rfl rfl (fun hg => Ev.fieldAddr (fld_run rfl) (by rfl)) ?_
  refine OPS.gval rfl rfl rfl rfl rfl (fun hg => Ev.load1 (agg_run rfl) (by exact gvE hg rfl) (by exact H.ldL 2 rfl _ rfl)) ?_
  refine OPS.gval rfl rfl rfl rfl rfl (fun hg => Ev.eql (by exact gvE hg rfl) (by rfl)) ?_
  refine OPS.val rfl rfl rfl ((by exact Ev.pickAnd rfl rfl rfl)) ?_
  refine OPS.val rfl rfl rfl (Ev.mvB rfl) ?_
  refine OPS.gyes rfl rfl rfl rfl ?_
  refine OPS.val rfl rfl rfl (Ev.loadO 4 H rfl (agg_run rfl) (size_run rfl) rfl rfl) ?_
  refine OPS.gyes rfl rfl rfl rfl ?_
  refine OPS.val rfl rfl rfl (Ev.loadO 2 H rfl (agg_run rfl) (size_run rfl) rfl rfl) ?_
  have hz5 := hzz w _ 5 H rfl
  have ho4 : IntsAt w B4 on4 := hB4.rd H fun b hb => by simp [hb]
  have hq4 : IntsAt w P4 pots4 := hP4.rd H fun b hb => by simp [hb]
  refine OPS.gyes rfl rfl rfl rfl ?_
  refine OPS.call (d := some 91) rfl rfl rfl (EvC.func (fun_run rfl)) (flowValid 4 0 3 4 14 (some ⟨g, 0, none⟩) B4 P4 exL on4 5 on4.length pots4.length pots4.length w hz5 ho4) ?_
  rintro _ w ⟨vb, rfl, hvb, Hc⟩; refine ⟨_, rfl, ?_⟩
  obtain rfl : vb = true := hvb.2 hv4
  replace H := H.toBelow Hc
  replace hz5 := hz5.below Hc
  replace ho4 := ho4.below Hc
  replace hq4 := hq4.below Hc
  clear Hc
  refine OPS.val rfl rfl rfl (Ev.pickT (v := .bool true) rfl rfl rfl) ?_
  refine OPS.val rfl rfl rfl (Ev.mvB rfl) ?_
  refine OPS.gyes rfl rfl rfl rfl ?_
  refine OPS.val rfl rfl rfl (Ev.loadO 4 H rfl (agg_run rfl) (size_run rfl) rfl rfl) ?_
  refine OPS.gyes rfl rfl rfl rfl ?_
  refine OPS.val rfl rfl rfl (Ev.loadO 2 H rfl (agg_run rfl) (size_run rfl) rfl rfl) ?_
  refine OPS.gyes rfl rfl rfl rfl ?_
  refine OPS.call (d := some 96) rfl rfl rfl (EvC.func (fun_run rfl)) (flowProved 4 0 3 4 14 (some ⟨g, 0, none⟩) B4 P4 exL on4 pots4 5 on4.length pots4.length w hz5 ho4 hq4) ?_
  rintro _ w ⟨pb, rfl, hpb, Hc⟩; refine ⟨_, rfl, ?_⟩
  obtain rfl : pb = true := hpb.2 hp4
  replace H := H.toBelow Hc
  replace hz5 := hz5.below Hc
  clear Hc
  refine OPS.val rfl rfl rfl (Ev.pickT (v := .bool true) rfl rfl rfl) ?_
  refine OPS.val rfl rfl rfl (Ev.mvB rfl) ?_
  refine OPS.gyes rfl rfl rfl rfl ?_
  refine OPS.val rfl rfl rfl (Ev.loadO 4 H rfl (agg_run rfl) (size_run rfl) rfl rfl) ?_
  refine OPS.gyes rfl rfl rfl rfl ?_
  refine OPS.val rfl rfl rfl (Ev.build (bld_38_0 rfl)) ?_
  refine OPS.gyes rfl rfl rfl rfl ?_
  refine OPS.call (d := some 101) rfl rfl rfl (EvC.func (fun_run rfl)) (flowValid 4 0 3 1 0 (some ⟨g, 0, none⟩) none none exL [] 5 0 0 0 w hz5 OnesAt.nil) ?_
  rintro _ w ⟨nb, rfl, hnb, Hc⟩; refine ⟨_, rfl, ?_⟩
  obtain rfl : nb = false := by
    cases nb with
    | false => rfl
    | true => exact absurd (hnb.1 rfl).flow.v.len (by decide)
  replace H := H.toBelow Hc
  clear Hc
  refine OPS.gyes rfl rfl rfl rfl ?_
  refine OPS.val rfl rfl rfl (Ev.not rfl) ?_
  refine OPS.val rfl rfl rfl (Ev.pickT (v := .bool true) rfl rfl rfl) ?_
  refine OPS.val rfl rfl rfl (Ev.asB rfl) ?_
  refine OPS.nil ?_
  refine WP.ret ⟨_, rfl, ?_⟩
  exact ⟨rfl, H.below⟩
end Go.Proofs.Ythegjmgljolalaa
