/-
  Walks: edges that fold or meet; the distance of a point from an edge.
-/
import Derived.Test.YtjgdklhbegplfaaGreatArg
set_option linter.all false
namespace Go.Proofs.YtjgdklhbegplfaaGreat
open Go Go.W Go.RowKit

structure EdR (e : Edge') : Prop where
  a : PtR e.a
  b : PtR e.b
theorem geoFolds (e f : Edge') (he : EdR e) (hf : EdR f) (w0 : World) : Calls Tryz.prog 78 #[.agg #[I e.a.x, I e.a.y, I e.b.x, I e.b.y], .agg #[I f.a.x, I f.a.y, I f.b.x, I f.b.y]] w0 fun e' w' => e' = .returned (.bool (foldB e.a e.b f.b)) ∧ Below w0.heap.size w0 w' := by
  have H := SH.refl w0
  refine Calls.ofWP Tryz.func78 rfl Tryz.results78 Tryz.ntmps78 rfl ?_
  refine WP.seq ?_
  refine WP.region ?_
  refine OPS.box rfl rfl rfl rfl (cA rfl) H ?_
  clear H; intro g2 w H
  refine OPS.box rfl rfl rfl rfl (cA rfl) H ?_
  clear H; intro g3 w H
  refine OPS.val rfl rfl rfl (Ev.asB rfl) ?_
  refine OPS.nil ?_
  refine WP.seq ?_
  refine WP.region ?_
  refine OPS.val rfl rfl rfl (Ev.fieldAddr (fld_run rfl) rfl) ?_
  refine OPS.val rfl rfl rfl ((by exact Ev.loadN [_, _] (agg_run rfl) (size_run rfl) rfl ⟨H.ldL 1 rfl _ rfl, H.ldL 1 rfl _ rfl, trivial⟩)) ?_
  refine OPS.val rfl rfl rfl (Ev.fieldAddr (fld_run rfl) rfl) ?_
  refine OPS.val rfl rfl rfl ((by exact Ev.loadN [_, _] (agg_run rfl) (size_run rfl) rfl ⟨H.ldL 1 rfl _ rfl, H.ldL 1 rfl _ rfl, trivial⟩)) ?_
  refine OPS.val rfl rfl rfl (Ev.fieldAddr (fld_run rfl) rfl) ?_
  refine OPS.val rfl rfl rfl ((by exact Ev.loadN [_, _] (agg_run rfl) (size_run rfl) rfl ⟨H.ldL 0 rfl _ rfl, H.ldL 0 rfl _ rfl, trivial⟩)) ?_
  refine OPS.call (d := some 11) rfl rfl rfl (EvC.func (fun_run rfl)) (geoCross e.a e.b f.b he.a he.b hf.b w) ?_
  rintro _ w ⟨rfl, hb⟩
  refine ⟨_, rfl, ?_⟩
  replace H := H.toBelow hb; clear hb
  refine OPS.val rfl rfl rfl (Ev.eql rfl rfl) ?_
  refine OPS.val rfl rfl rfl (Ev.mvB rfl) ?_
  refine OPS.gval rfl rfl rfl rfl rfl (fun hg => Ev.fieldAddr (fld_run rfl) (by rfl)) ?_
  refine OPS.gval rfl rfl rfl rfl rfl (fun hg => (by exact Ev.loadN [_, _] (agg_run rfl) (size_run rfl) (by exact gvE hg rfl) ⟨H.ldL 1 rfl _ rfl, H.ldL 1 rfl _ rfl, trivial⟩)) ?_
  refine OPS.gval rfl rfl rfl rfl rfl (fun hg => Ev.fieldAddr (fld_run rfl) (by rfl)) ?_
  refine OPS.gval rfl rfl rfl rfl rfl (fun hg => (by exact Ev.loadN [_, _] (agg_run rfl) (size_run rfl) (by exact gvE hg rfl) ⟨H.ldL 1 rfl _ rfl, H.ldL 1 rfl _ rfl, trivial⟩)) ?_
  refine OPS.gval rfl rfl rfl rfl rfl (fun hg => Ev.fieldAddr (fld_run rfl) (by rfl)) ?_
  refine OPS.gval rfl rfl rfl rfl rfl (fun hg => (by exact Ev.loadN [_, _] (agg_run rfl) (size_run rfl) (by exact gvE hg rfl) ⟨H.ldL 0 rfl _ rfl, H.ldL 0 rfl _ rfl, trivial⟩)) ?_
  refine OPS.gcall0 (f := 80) (geoDot e.b e.a f.b he.b he.a hf.b w) (fun _ _ h => h) rfl rfl rfl rfl rfl (fun hg => EvC.conv (EvC.func (fun_run rfl)) (l3 (by exact gvE hg rfl) (by exact gvE hg rfl) (by exact gvE hg rfl))) ?_
  intro w hbc; replace H := H.toBelow hbc
  refine OPS.gval rfl rfl rfl rfl rfl (fun hg => Ev.gtr (by exact gvE hg rfl) (by rfl)) ?_
  refine OPS.val rfl rfl rfl ((by exact Ev.pickAnd rfl rfl rfl)) ?_
  refine OPS.val rfl rfl rfl (Ev.asB rfl) ?_
  refine OPS.nil ?_
  refine WP.ret ⟨_, rfl, ?_⟩
  exact ⟨ret_eq (by unfold foldB; rfl), H.below⟩
set_option maxHeartbeats 1000000 in
theorem geoMeets (e f : Edge') (he : EdR e) (hf : EdR f) (w0 : World) : Calls Tryz.prog 79 #[.agg #[I e.a.x, I e.a.y, I e.b.x, I e.b.y], .agg #[I f.a.x, I f.a.y, I f.b.x, I f.b.y]] w0 fun e' w' => e' = .returned (.bool (meetP e.a e.b f.a f.b)) ∧ Below w0.heap.size w0 w' := by
  have H := SH.refl w0
  refine Calls.ofWP Tryz.func79 rfl Tryz.results79 Tryz.ntmps79 rfl ?_
  refine WP.seq ?_
  refine WP.region ?_
  refine OPS.box rfl rfl rfl rfl (cA rfl) H ?_
  clear H; intro g2 w H
  refine OPS.box rfl rfl rfl rfl (cA rfl) H ?_
  clear H; intro g3 w H
  refine OPS.val rfl rfl rfl (Ev.asB rfl) ?_
  refine OPS.nil ?_
  refine WP.seq ?_
  refine WP.seq ?_
  refine WP.region ?_
  refine OPS.val rfl rfl rfl ((by exact Ev.loadO 1 H rfl (agg_run rfl) (size_run rfl) (by rfl) rfl)) ?_
  refine OPS.val rfl rfl rfl (Ev.fieldAddr (fld_run rfl) rfl) ?_
  refine OPS.val rfl rfl rfl ((by exact Ev.loadN [_, _] (agg_run rfl) (size_run rfl) rfl ⟨H.ldL 0 rfl _ rfl, H.ldL 0 rfl _ rfl, trivial⟩)) ?_
  refine OPS.call (d := some 8) rfl rfl rfl (EvC.func (fun_run rfl)) (geoHas e f.a he.a he.b hf.a w) ?_
  rintro _ w ⟨rfl, hb⟩
  refine ⟨_, rfl, ?_⟩
  replace H := H.toBelow hb; clear hb
  refine OPS.val rfl rfl rfl (Ev.mvB rfl) ?_
  refine OPS.gval rfl rfl rfl rfl rfl (fun hg => (by exact Ev.loadO 1 H rfl (agg_run rfl) (size_run rfl) (by rfl) rfl)) ?_
  refine OPS.gval rfl rfl rfl rfl rfl (fun hg => Ev.fieldAddr (fld_run rfl) (by rfl)) ?_
  refine OPS.gval rfl rfl rfl rfl rfl (fun hg => (by exact Ev.loadN [_, _] (agg_run rfl) (size_run rfl) (by exact gvE hg rfl) ⟨H.ldL 0 rfl _ rfl, H.ldL 0 rfl _ rfl, trivial⟩)) ?_
  refine OPS.gcall0 (f := 43) (geoHas e f.b he.a he.b hf.b w) (fun _ _ h => h) rfl rfl rfl rfl rfl (fun hg => EvC.conv (EvC.func (fun_run rfl)) (l2 (by exact gvE hg rfl) (by exact gvE hg rfl))) ?_
  intro w hbc; replace H := H.toBelow hbc
  refine OPS.val rfl rfl rfl ((by exact Ev.pickOr rfl rfl rfl)) ?_
  refine OPS.val rfl rfl rfl (Ev.mvB rfl) ?_
  refine OPS.gval rfl rfl rfl rfl rfl (fun hg => (by exact Ev.loadO 0 H rfl (agg_run rfl) (size_run rfl) (by rfl) rfl)) ?_
  refine OPS.gval rfl rfl rfl rfl rfl (fun hg => Ev.fieldAddr (fld_run rfl) (by rfl)) ?_
  refine OPS.gval rfl rfl rfl rfl rfl (fun hg => (by exact Ev.loadN [_, _] (agg_run rfl) (size_run rfl) (by exact gvE hg rfl) ⟨H.ldL 1 rfl _ rfl, H.ldL 1 rfl _ rfl, trivial⟩)) ?_
  refine OPS.gcall0 (f := 43) (geoHas f e.a hf.a hf.b he.a w) (fun _ _ h => h) rfl rfl rfl rfl rfl (fun hg => EvC.conv (EvC.func (fun_run rfl)) (l2 (by exact gvE hg rfl) (by exact gvE hg rfl))) ?_
  intro w hbc; replace H := H.toBelow hbc
  refine OPS.val rfl rfl rfl ((by exact Ev.pickOr rfl rfl rfl)) ?_
  refine OPS.val rfl rfl rfl (Ev.mvB rfl) ?_
  refine OPS.gval rfl rfl rfl rfl rfl (fun hg => (by exact Ev.loadO 0 H rfl (agg_run rfl) (size_run rfl) (by rfl) rfl)) ?_
  refine OPS.gval rfl rfl rfl rfl rfl (fun hg => Ev.fieldAddr (fld_run rfl) (by rfl)) ?_
  refine OPS.gval rfl rfl rfl rfl rfl (fun hg => (by exact Ev.loadN [_, _] (agg_run rfl) (size_run rfl) (by exact gvE hg rfl) ⟨H.ldL 1 rfl _ rfl, H.ldL 1 rfl _ rfl, trivial⟩)) ?_
  refine OPS.gcall0 (f := 43) (geoHas f e.b hf.a hf.b he.b w) (fun _ _ h => h) rfl rfl rfl rfl rfl (fun hg => EvC.conv (EvC.func (fun_run rfl)) (l2 (by exact gvE hg rfl) (by exact gvE hg rfl))) ?_
  intro w hbc; replace H := H.toBelow hbc
  refine OPS.val rfl rfl rfl ((by exact Ev.pickOr rfl rfl rfl)) ?_
  refine OPS.nil ?_
  refine WP.cond rfl (fun hc1 => ?_) (fun hc1 => ?_)
  · refine WP.seq ?_
    refine WP.region ?_
    refine OPS.val rfl rfl rfl (Ev.asB rfl) ?_
    refine OPS.nil ?_
    refine WP.ret ⟨_, rfl, ?_⟩
    exact ⟨ret_eq (by unfold meetP; rw [hc1]; rfl), H.below⟩
  refine WP.skip ?_
  refine WP.seq ?_
  refine WP.rquiet mixed (by kernel_rfl) H ?_
  clear H; intro w hbw3 H
  refine OPS.val rfl rfl rfl (Ev.fieldAddr (fld_run rfl) rfl) ?_
  refine OPS.val rfl rfl rfl ((by exact Ev.loadN [_, _] (agg_run rfl) (size_run rfl) rfl ⟨H.ldL 1 rfl _ rfl, H.ldL 1 rfl _ rfl, trivial⟩)) ?_
  refine OPS.val rfl rfl rfl (Ev.fieldAddr (fld_run rfl) rfl) ?_
  refine OPS.val rfl rfl rfl ((by exact Ev.loadN [_, _] (agg_run rfl) (size_run rfl) rfl ⟨H.ldL 1 rfl _ rfl, H.ldL 1 rfl _ rfl, trivial⟩)) ?_
  refine OPS.val rfl rfl rfl (Ev.fieldAddr (fld_run rfl) rfl) ?_
  refine OPS.val rfl rfl rfl ((by exact Ev.loadN [_, _] (agg_run rfl) (size_run rfl) rfl ⟨H.ldL 0 rfl _ rfl, H.ldL 0 rfl _ rfl, trivial⟩)) ?_
  refine OPS.callq rfl rfl rfl (EvC.func (fun_run rfl)) (fun w2 hb2 => geoCross e.a e.b f.a he.a he.b hf.a w2) ?_
  refine OPS.callq rfl rfl rfl (EvC.func (fun_run rfl)) (fun w2 hb2 => geoSign (crs e.a e.b f.a) w2) ?_
  refine OPS.val rfl rfl rfl (Ev.fieldAddr (fld_run rfl) rfl) ?_
  refine OPS.val rfl rfl rfl ((by exact Ev.loadN [_, _] (agg_run rfl) (size_run rfl) rfl ⟨H.ldL 1 rfl _ rfl, H.ldL 1 rfl _ rfl, trivial⟩)) ?_
  refine OPS.val rfl rfl rfl (Ev.fieldAddr (fld_run rfl) rfl) ?_
  refine OPS.val rfl rfl rfl ((by exact Ev.loadN [_, _] (agg_run rfl) (size_run rfl) rfl ⟨H.ldL 1 rfl _ rfl, H.ldL 1 rfl _ rfl, trivial⟩)) ?_
  refine OPS.val rfl rfl rfl (Ev.fieldAddr (fld_run rfl) rfl) ?_
  refine OPS.val rfl rfl rfl ((by exact Ev.loadN [_, _] (agg_run rfl) (size_run rfl) rfl ⟨H.ldL 0 rfl _ rfl, H.ldL 0 rfl _ rfl, trivial⟩)) ?_
  refine OPS.callq rfl rfl rfl (EvC.func (fun_run rfl)) (fun w2 hb2 => geoCross e.a e.b f.b he.a he.b hf.b w2) ?_
  refine OPS.callq rfl rfl rfl (EvC.func (fun_run rfl)) (fun w2 hb2 => geoSign (crs e.a e.b f.b) w2) ?_
  refine OPS.val rfl rfl rfl (Ev.neq rfl rfl) ?_
  refine OPS.val rfl rfl rfl (Ev.mvB rfl) ?_
  refine OPS.gval rfl rfl rfl rfl rfl (fun hg => Ev.fieldAddr (fld_run rfl) (by rfl)) ?_
  refine OPS.gval rfl rfl rfl rfl rfl (fun hg => (by exact Ev.loadN [_, _] (agg_run rfl) (size_run rfl) (by exact gvE hg rfl) ⟨H.ldL 0 rfl _ rfl, H.ldL 0 rfl _ rfl, trivial⟩)) ?_
  refine OPS.gval rfl rfl rfl rfl rfl (fun hg => Ev.fieldAddr (fld_run rfl) (by rfl)) ?_
  refine OPS.gval rfl rfl rfl rfl rfl (fun hg => (by exact Ev.loadN [_, _] (agg_run rfl) (size_run rfl) (by exact gvE hg rfl) ⟨H.ldL 0 rfl _ rfl, H.ldL 0 rfl _ rfl, trivial⟩)) ?_
  refine OPS.gval rfl rfl rfl rfl rfl (fun hg => Ev.fieldAddr (fld_run rfl) (by rfl)) ?_
  refine OPS.gval rfl rfl rfl rfl rfl (fun hg => (by exact Ev.loadN [_, _] (agg_run rfl) (size_run rfl) (by exact gvE hg rfl) ⟨H.ldL 1 rfl _ rfl, H.ldL 1 rfl _ rfl, trivial⟩)) ?_
  refine OPS.gcallq2 (f := 44) (fun hg w2 hb2 => geoCross f.a f.b e.a hf.a hf.b he.a w2) rfl rfl rfl rfl rfl (fun hg => EvC.conv (EvC.func (fun_run rfl)) (l3 (by exact gvE hg rfl) (by exact gvE hg rfl) (by exact gvE hg rfl))) ?_
  refine OPS.gcallq2 (f := 129) (fun hg w2 hb2 => geoSign (crs f.a f.b e.a) w2) rfl rfl rfl rfl rfl (fun hg => EvC.conv (EvC.func (fun_run rfl)) (l1 (by exact gvE hg rfl))) ?_
  refine OPS.gval rfl rfl rfl rfl rfl (fun hg => Ev.fieldAddr (fld_run rfl) (by rfl)) ?_
  refine OPS.gval rfl rfl rfl rfl rfl (fun hg => (by exact Ev.loadN [_, _] (agg_run rfl) (size_run rfl) (by exact gvE hg rfl) ⟨H.ldL 0 rfl _ rfl, H.ldL 0 rfl _ rfl, trivial⟩)) ?_
  refine OPS.gval rfl rfl rfl rfl rfl (fun hg => Ev.fieldAddr (fld_run rfl) (by rfl)) ?_
  refine OPS.gval rfl rfl rfl rfl rfl (fun hg => (by exact Ev.loadN [_, _] (agg_run rfl) (size_run rfl) (by exact gvE hg rfl) ⟨H.ldL 0 rfl _ rfl, H.ldL 0 rfl _ rfl, trivial⟩)) ?_
  refine OPS.gval rfl rfl rfl rfl rfl (fun hg => Ev.fieldAddr (fld_run rfl) (by rfl)) ?_
  refine OPS.gval rfl rfl rfl rfl rfl (fun hg => (by exact Ev.loadN [_, _] (agg_run rfl) (size_run rfl) (by exact gvE hg rfl) ⟨H.ldL 1 rfl _ rfl, H.ldL 1 rfl _ rfl, trivial⟩)) ?_
  refine OPS.gcallq2 (f := 44) (fun hg w2 hb2 => geoCross f.a f.b e.b hf.a hf.b he.b w2) rfl rfl rfl rfl rfl (fun hg => EvC.conv (EvC.func (fun_run rfl)) (l3 (by exact gvE hg rfl) (by exact gvE hg rfl) (by exact gvE hg rfl))) ?_
  refine OPS.gcallq2 (f := 129) (fun hg w2 hb2 => geoSign (crs f.a f.b e.b) w2) rfl rfl rfl rfl rfl (fun hg => EvC.conv (EvC.func (fun_run rfl)) (l1 (by exact gvE hg rfl))) ?_
  refine OPS.gval rfl rfl rfl rfl rfl (fun hg => Ev.neq (by exact gvE hg rfl) (by exact gvE hg rfl)) ?_
  refine OPS.val rfl rfl rfl ((by exact Ev.pickAnd rfl rfl rfl)) ?_
  refine OPS.val rfl rfl rfl (Ev.asB rfl) ?_
  refine OPS.nilq H ?_
  clear H; intro w hbx3 H
  refine WP.ret ⟨_, rfl, ?_⟩
  exact ⟨ret_eq (by unfold meetP; rw [hc1]; rfl), H.below⟩
set_option maxHeartbeats 1000000 in
theorem geoNear (e : Edge') (c : Pt) (r : Int) (he : EdR e) (hc : PtR c) (hr : 0 ≤ r ∧ r ≤ 16384) (w0 : World) : Calls Tryz.prog 168 #[.agg #[I e.a.x, I e.a.y, I e.b.x, I e.b.y], .agg #[I c.x, I c.y], I r] w0 fun e' w' => e' = .returned (I (sgn (cmpV e.a e.b c r))) ∧ Below w0.heap.size w0 w' := by
  have H := SH.refl w0
  have d1 := dot_bd he.a he.b hc
  have d2 := dot_bd he.a he.b he.b
  have d3 := dot_bd hc he.a he.a
  have d4 := dot_bd hc he.b he.b
  have d5 := crs_bd he.a he.b hc
  have m1 := mulAbs (a := r) (b := r) (A := 16384) (B := 16384) (by omega) (by omega)
  have m2 := mulAbs (a := crs e.a e.b c) (b := crs e.a e.b c) (A := 2147483648) (B := 2147483648) d5 d5
  have m3 := mulAbs (a := r * r) (b := dotp e.a e.b e.b) (A := 268435456) (B := 2147483648) (by omega) d2
  refine Calls.ofWP Tryz.func168 rfl Tryz.results168 Tryz.ntmps168 rfl ?_
  refine WP.seq ?_
  refine WP.region ?_
  refine OPS.box rfl rfl rfl rfl (cA rfl) H ?_
  clear H; intro g3 w H
  refine OPS.box rfl rfl rfl rfl (cA rfl) H ?_
  clear H; intro g4 w H
  refine OPS.val rfl rfl rfl (Ev.asI rfl) ?_
  refine OPS.nil ?_
  refine WP.seq ?_
  refine WP.rquiet mixed (by kernel_rfl) H ?_
  clear H; intro w hbw1 H
  refine OPS.val rfl rfl rfl (Ev.fieldAddr (fld_run rfl) rfl) ?_
  refine OPS.val rfl rfl rfl ((by exact Ev.loadN [_, _] (agg_run rfl) (size_run rfl) rfl ⟨H.ldL 1 rfl _ rfl, H.ldL 1 rfl _ rfl, trivial⟩)) ?_
  refine OPS.val rfl rfl rfl (Ev.fieldAddr (fld_run rfl) rfl) ?_
  refine OPS.val rfl rfl rfl ((by exact Ev.loadN [_, _] (agg_run rfl) (size_run rfl) rfl ⟨H.ldL 1 rfl _ rfl, H.ldL 1 rfl _ rfl, trivial⟩)) ?_
  refine OPS.val rfl rfl rfl ((by exact Ev.loadO 0 H rfl (agg_run rfl) (size_run rfl) (by rfl) rfl)) ?_
  refine OPS.callq rfl rfl rfl (EvC.func (fun_run rfl)) (fun w2 hb2 => geoDot e.a e.b c he.a he.b hc w2) ?_
  refine OPS.val rfl rfl rfl (Ev.fieldAddr (fld_run rfl) rfl) ?_
  refine OPS.val rfl rfl rfl ((by exact Ev.loadN [_, _] (agg_run rfl) (size_run rfl) rfl ⟨H.ldL 1 rfl _ rfl, H.ldL 1 rfl _ rfl, trivial⟩)) ?_
  refine OPS.val rfl rfl rfl (Ev.fieldAddr (fld_run rfl) rfl) ?_
  refine OPS.val rfl rfl rfl ((by exact Ev.loadN [_, _] (agg_run rfl) (size_run rfl) rfl ⟨H.ldL 1 rfl _ rfl, H.ldL 1 rfl _ rfl, trivial⟩)) ?_
  refine OPS.val rfl rfl rfl (Ev.fieldAddr (fld_run rfl) rfl) ?_
  refine OPS.val rfl rfl rfl ((by exact Ev.loadN [_, _] (agg_run rfl) (size_run rfl) rfl ⟨H.ldL 1 rfl _ rfl, H.ldL 1 rfl _ rfl, trivial⟩)) ?_
  refine OPS.callq rfl rfl rfl (EvC.func (fun_run rfl)) (fun w2 hb2 => geoDot e.a e.b e.b he.a he.b he.b w2) ?_
  refine OPS.val rfl rfl rfl (Ev.asI rfl) ?_
  refine OPS.val rfl rfl rfl (Ev.asI rfl) ?_
  refine OPS.nilq H ?_
  clear H; intro w hbx1 H
  refine WP.seq ?_
  refine WP.block ?_
  refine WP.seq ?_
  refine WP.region ?_
  refine OPS.val rfl rfl rfl (Ev.mvI rfl) ?_
  refine OPS.val rfl rfl rfl (Ev.leq rfl rfl) ?_
  refine OPS.val rfl rfl rfl (Ev.asB rfl) ?_
  refine OPS.nil ?_
  refine WP.cond rfl (fun hc2 => ?_) (fun hc2 => ?_)
  · have h : dotp e.a e.b c ≤ 0 := by simpa using hc2
    have hv : cmpV e.a e.b c r = dotp c e.a e.a - r * r := by rw [cmpV, if_pos h]
    refine WP.seq ?_
    refine WP.region ?_
    refine OPS.val rfl rfl rfl ((by exact Ev.loadO 0 H rfl (agg_run rfl) (size_run rfl) (by rfl) rfl)) ?_
    refine OPS.val rfl rfl rfl (Ev.fieldAddr (fld_run rfl) rfl) ?_
    refine OPS.val rfl rfl rfl ((by exact Ev.loadN [_, _] (agg_run rfl) (size_run rfl) rfl ⟨H.ldL 1 rfl _ rfl, H.ldL 1 rfl _ rfl, trivial⟩)) ?_
    refine OPS.val rfl rfl rfl (Ev.fieldAddr (fld_run rfl) rfl) ?_
    refine OPS.val rfl rfl rfl ((by exact Ev.loadN [_, _] (agg_run rfl) (size_run rfl) rfl ⟨H.ldL 1 rfl _ rfl, H.ldL 1 rfl _ rfl, trivial⟩)) ?_
    refine OPS.call (d := some 31) rfl rfl rfl (EvC.func (fun_run rfl)) (geoDot c e.a e.a hc he.a he.a w) ?_
    rintro _ w ⟨rfl, hb⟩
    refine ⟨_, rfl, ?_⟩
    replace H := H.toBelow hb; clear hb
    refine OPS.val rfl rfl rfl (Ev.mvI rfl) ?_
    refine OPS.val rfl rfl rfl (Ev.mvI rfl) ?_
    refine OPS.val rfl rfl rfl (Ev.mul rfl rfl (by unfold fits; omega)) ?_
    refine OPS.val rfl rfl rfl (Ev.sub rfl rfl (by unfold fits; omega)) ?_
    refine OPS.call (d := some 36) rfl rfl rfl (EvC.func (fun_run rfl)) (geoSign (dotp c e.a e.a - r * r) w) ?_
    rintro _ w ⟨rfl, hb⟩
    refine ⟨_, rfl, ?_⟩
    replace H := H.toBelow hb; clear hb
    refine OPS.val rfl rfl rfl (Ev.asI rfl) ?_
    refine OPS.nil ?_
    refine WP.ret ⟨_, rfl, ?_⟩
    exact ⟨ret_int (by rw [hv]), H.below⟩
  have h : ¬ dotp e.a e.b c ≤ 0 := by simpa using hc2
  refine WP.seq ?_
  refine WP.region ?_
  refine OPS.val rfl rfl rfl (Ev.mvI rfl) ?_
  refine OPS.val rfl rfl rfl (Ev.mvI rfl) ?_
  refine OPS.val rfl rfl rfl (Ev.geq rfl rfl) ?_
  refine OPS.val rfl rfl rfl (Ev.asB rfl) ?_
  refine OPS.nil ?_
  refine WP.cond rfl (fun hc4 => ?_) (fun hc4 => ?_)
  · have h2 : dotp e.a e.b e.b ≤ dotp e.a e.b c := by simpa using hc4
    have hv : cmpV e.a e.b c r = dotp c e.b e.b - r * r := by rw [cmpV, if_neg h, if_pos h2]
    refine WP.seq ?_
    refine WP.region ?_
    refine OPS.val rfl rfl rfl ((by exact Ev.loadO 0 H rfl (agg_run rfl) (size_run rfl) (by rfl) rfl)) ?_
    refine OPS.val rfl rfl rfl (Ev.fieldAddr (fld_run rfl) rfl) ?_
    refine OPS.val rfl rfl rfl ((by exact Ev.loadN [_, _] (agg_run rfl) (size_run rfl) rfl ⟨H.ldL 1 rfl _ rfl, H.ldL 1 rfl _ rfl, trivial⟩)) ?_
    refine OPS.val rfl rfl rfl (Ev.fieldAddr (fld_run rfl) rfl) ?_
    refine OPS.val rfl rfl rfl ((by exact Ev.loadN [_, _] (agg_run rfl) (size_run rfl) rfl ⟨H.ldL 1 rfl _ rfl, H.ldL 1 rfl _ rfl, trivial⟩)) ?_
    refine OPS.call (d := some 46) rfl rfl rfl (EvC.func (fun_run rfl)) (geoDot c e.b e.b hc he.b he.b w) ?_
    rintro _ w ⟨rfl, hb⟩
    refine ⟨_, rfl, ?_⟩
    replace H := H.toBelow hb; clear hb
    refine OPS.val rfl rfl rfl (Ev.mvI rfl) ?_
    refine OPS.val rfl rfl rfl (Ev.mvI rfl) ?_
    refine OPS.val rfl rfl rfl (Ev.mul rfl rfl (by unfold fits; omega)) ?_
    refine OPS.val rfl rfl rfl (Ev.sub rfl rfl (by unfold fits; omega)) ?_
    refine OPS.call (d := some 51) rfl rfl rfl (EvC.func (fun_run rfl)) (geoSign (dotp c e.b e.b - r * r) w) ?_
    rintro _ w ⟨rfl, hb⟩
    refine ⟨_, rfl, ?_⟩
    replace H := H.toBelow hb; clear hb
    refine OPS.val rfl rfl rfl (Ev.asI rfl) ?_
    refine OPS.nil ?_
    refine WP.ret ⟨_, rfl, ?_⟩
    exact ⟨ret_int (by rw [hv]), H.below⟩
  have h2 : ¬ dotp e.a e.b e.b ≤ dotp e.a e.b c := by simpa using hc4
  have hv : cmpV e.a e.b c r = crs e.a e.b c * crs e.a e.b c - r * r * dotp e.a e.b e.b := by rw [cmpV, if_neg h, if_neg h2]
  refine WP.skip ?_
  refine WP.seq ?_
  refine WP.region ?_
  refine OPS.val rfl rfl rfl (Ev.fieldAddr (fld_run rfl) rfl) ?_
  refine OPS.val rfl rfl rfl ((by exact Ev.loadN [_, _] (agg_run rfl) (size_run rfl) rfl ⟨H.ldL 1 rfl _ rfl, H.ldL 1 rfl _ rfl, trivial⟩)) ?_
  refine OPS.val rfl rfl rfl (Ev.fieldAddr (fld_run rfl) rfl) ?_
  refine OPS.val rfl rfl rfl ((by exact Ev.loadN [_, _] (agg_run rfl) (size_run rfl) rfl ⟨H.ldL 1 rfl _ rfl, H.ldL 1 rfl _ rfl, trivial⟩)) ?_
  refine OPS.val rfl rfl rfl ((by exact Ev.loadO 0 H rfl (agg_run rfl) (size_run rfl) (by rfl) rfl)) ?_
  refine OPS.call (d := some 57) rfl rfl rfl (EvC.func (fun_run rfl)) (geoCross e.a e.b c he.a he.b hc w) ?_
  rintro _ w ⟨rfl, hb⟩
  refine ⟨_, rfl, ?_⟩
  replace H := H.toBelow hb; clear hb
  refine OPS.val rfl rfl rfl (Ev.asI rfl) ?_
  refine OPS.nil ?_
  refine WP.seq ?_
  refine WP.region ?_
  refine OPS.val rfl rfl rfl (Ev.mvI rfl) ?_
  refine OPS.val rfl rfl rfl (Ev.mvI rfl) ?_
  refine OPS.val rfl rfl rfl (Ev.mul rfl rfl (by unfold fits; omega)) ?_
  refine OPS.val rfl rfl rfl (Ev.mvI rfl) ?_
  refine OPS.val rfl rfl rfl (Ev.mvI rfl) ?_
  refine OPS.val rfl rfl rfl (Ev.mul rfl rfl (by unfold fits; omega)) ?_
  refine OPS.val rfl rfl rfl (Ev.mvI rfl) ?_
  refine OPS.val rfl rfl rfl (Ev.mul rfl rfl (by unfold fits; omega)) ?_
  refine OPS.val rfl rfl rfl (Ev.sub rfl rfl (by unfold fits; omega)) ?_
  refine OPS.call (d := some 67) rfl rfl rfl (EvC.func (fun_run rfl)) (geoSign (crs e.a e.b c * crs e.a e.b c - r * r * dotp e.a e.b e.b) w) ?_
  rintro _ w ⟨rfl, hb⟩
  refine ⟨_, rfl, ?_⟩
  replace H := H.toBelow hb; clear hb
  refine OPS.val rfl rfl rfl (Ev.asI rfl) ?_
  refine OPS.nil ?_
  refine WP.ret ⟨_, rfl, ?_⟩
  exact ⟨ret_int (by rw [hv]), H.below⟩
end Go.Proofs.YtjgdklhbegplfaaGreat

/-
  Walks: the edges of a polygon; whether they are simple.
-/
set_option linter.all false
namespace Go.Proofs.YtjgdklhbegplfaaGreat
open Go Go.W Go.RowKit

theorem intEq (d : Nat) (a b : Int) (w : World) : (Op.equalIn (d + 1) 3 (I a) (I b)).run Tryz.prog w = .ok (a == b) w := by
  rw [Op.equalIn]
  simp only [Sem.run_bind, Tryz.runUnderlying3, Result.andThen_ok]
  simp [Sem.run_pure]
theorem prog_run (w : World) : (program).run Tryz.prog w = .ok Tryz.prog w := rfl
theorem eqG25 : Tryz.prog.eqGuardType Tryz.prog.depth 25 = false := by kernel_rfl
theorem eqS25 (a b c d : Int) : ∀ w, (Op.equal 25 (.agg #[I a, I b]) (.agg #[I c, I d])).run Tryz.prog w = .ok (decide (a = c) && decide (b = d)) w := by
  intro w
  have hs : Tryz.prog.stoodInHeld 25 = false := by kernel_rfl
  unfold Op.equal Op.maxDepth
  rw [Op.equalIn]
  simp only [Sem.run_bind, Tryz.runUnderlying25, Result.andThen_ok, prog_run, hs]
  simp [part, Tryz.isAgg3, Sem.run_bind, Sem.run_pure, intEq]
  by_cases h1 : a = c <;> by_cases h2 : b = d <;> simp [h1, h2]
theorem ptEq (p q : Pt) : (decide (p.x = q.x) && decide (p.y = q.y)) = decide (p = q) := by
  rw [Bool.eq_iff_iff]; cases p; cases q; simp
structure PtsAt (w : World) (A : Option Addr) (l : List Pt) : Prop where
  rows : RowsAt 2 ptCells w A l
theorem modCast (i n : Nat) : ((i : Int) + 1).tmod (n : Int) = (((i + 1) % n : Nat) : Int) := by
  rw [Int.tmod_eq_emod_of_nonneg (by omega), Int.natCast_emod]; rfl
theorem modCast2 (i n : Nat) : ((i : Int) + 1) % (n : Int) = (((i + 1) % n : Nat) : Int) := by
  rw [Int.natCast_emod]; rfl
theorem edgesL_take {l : List Pt} {j : Nat} (h : j < l.length) : (edgesL l).take (j + 1) = (edgesL l).take j ++ [edgeAt l j] := by
  rw [List.take_succ_eq_append_getElem (by rw [edgesL_len]; exact h), edgesL_get]
theorem getDp {l : List Pt} {i : Nat} (h : i < l.length) : l.getD i default = l[i] := by rw [List.getD_eq_getElem?_getD, List.getElem?_eq_getElem h]; rfl
set_option maxHeartbeats 1000000 in
theorem geoEdges (A : Option Addr) (l : List Pt) (cap : Nat) (w0 : World) (hz : RowsAt 2 ptCells w0 A l) (hl : l.length ≤ 1000) :
    Calls Tryz.prog 41 #[.slice A l.length cap] w0 fun e w' => ∃ (S : Option Addr) (c : Nat) (L : List Blk), e = .returned (.slice S l.length c) ∧ OwnS S c l.length ((edgesL l).flatMap edgeCells) 113 4 L ∧ SH w0 [] w' L := by
  have H := SH.refl w0
  refine Calls.ofWP Tryz.func41 rfl Tryz.results41 Tryz.ntmps41 rfl ?_
  refine WP.seq ?_
  refine WP.region ?_
  refine OPS.val rfl rfl rfl (Ev.asS rfl) ?_
  refine OPS.nil ?_
  refine WP.seq ?_
  refine WP.region ?_
  refine OPS.val rfl rfl rfl (Ev.asS rfl) ?_
  refine OPS.nil ?_
  refine WP.seq ?_
  refine WP.seq ?_
  refine WP.region ?_
  refine OPS.val rfl rfl rfl (Ev.mvS rfl) ?_
  refine OPS.val rfl rfl rfl (Ev.len (el_run rfl) rfl) ?_
  refine OPS.val rfl rfl rfl (Ev.mvI rfl) ?_
  refine OPS.nil ?_
  refine WP.block ?_
  refine WP.loop [3, 4, 5, 8, 9, 10, 11, 12, 13, 14, 15, 16, 17, 18, 19, 20, 21, 22, 23, 24, 25, 26] (fun k e w' => ∃ (j : Nat) (S : Option Addr) (c : Nat) (Lo : List Blk), j + k = l.length ∧ e 8 = I j ∧ e 3 = .slice S j c ∧ OwnS S c j (((edgesL l).take j).flatMap edgeCells) 113 4 Lo ∧ SH w0 [] w' Lo) (l.length) (⟨0, none, 0, [], by omega, rfl, rfl, OwnS.nil, H⟩) ?_
  clear H
  rintro k u w ⟨j, S, c, Lo, hk, h8, h3, hO, H⟩
  refine WP.know (t := 8) h8 (WP.know (t := 3) h3 ?_)
  refine WP.seq ?_
  refine WP.region ?_
  refine OPS.val rfl rfl rfl (Ev.lss rfl rfl) ?_
  refine OPS.nil ?_
  refine WP.seq ?_
  refine WP.cond rfl (fun hc3 => ?_) (fun hc3 => ?_)
  · have hlt : j < l.length := by simpa using hc3
    have hm : (j + 1) % l.length < l.length := Nat.mod_lt _ (by omega)
    obtain ⟨b, o, rfl, hcx⟩ := hz j hlt
    obtain ⟨b2, o2, e2, hcy⟩ := hz ((j + 1) % l.length) hm
    cases e2
    have hc' := cellsAt_sh H hcx
    have htk := edgesL_take hlt
    have hee : edgeAt l j = ⟨l[j], l[(j + 1) % l.length]⟩ := by unfold edgeAt; rw [getDp hlt, getDp hm]
    obtain ⟨p, hp⟩ : ∃ p, p = l[j] := ⟨_, rfl⟩
    obtain ⟨q, hq⟩ : ∃ q, q = l[(j + 1) % l.length] := ⟨_, rfl⟩
    rw [← hp, ← hq] at hee
    rw [← hp] at hc'
    rw [← hq] at hcy
    rw [hee] at htk
    refine WP.skip ?_
    refine WP.seq ?_
    refine WP.block ?_
    refine WP.seq ?_
    refine WP.region ?_
    refine OPS.val rfl rfl rfl (Ev.mvI rfl) ?_
    refine OPS.val rfl rfl rfl ((by exact Ev.indexAddr (el_run rfl) (size_run rfl) rfl rfl rfl (by omega))) ?_
    refine OPS.val rfl rfl rfl ((by (change Ev _ _ _ _ (Op.load 25 (Operand.tmp 11)) _; exact Ev.loadN (ptCells p) (agg_run rfl) (size_run rfl) rfl hc'))) ?_
    refine OPS.alloc rfl rfl rfl rfl (zero_run rfl) rfl H ?_
    clear H; intro g5 w H
    refine OPS.val rfl rfl rfl (Ev.asI rfl) ?_
    refine OPS.store 0 _ rfl rfl rfl (size_run rfl) rfl (cA rfl) rfl rfl H rfl (by simp) ?_
    clear H; intro w H; try simp only [List.set_cons_zero, List.set_cons_succ, putL, Nat.zero_add] at H
    refine OPS.nil ?_
    dsimp only [ptCells] at H
    have E := H
    replace H := H.drop (List.sublist_append_left [_] _)
    refine WP.rheldC [3, 13, 14, 15, 16, 17, 18, 19, 20, 21, 22, 23, 24, 25] (fun u w' => ∃ (S : Option Addr) (c : Nat) (Lo : List Blk), u 3 = .slice S (j + 1) c ∧ OwnS S c (j + 1) (((edgesL l).take j).flatMap edgeCells ++ [I p.x, I p.y, I q.x, I q.y]) 113 4 Lo ∧ SH w0 [] w' Lo) mixed H ?_ ?_
    · clear H; intro w hbw5 H
      refine OPH.take 0 rfl rfl rfl rfl (by kernel_rfl) (by kernel_rfl) (by kernel_rfl) rfl (by exact H) (fun w H => Ev.mvS rfl) ?_
      refine OPH.take 1 rfl rfl rfl rfl (by kernel_rfl) (by kernel_rfl) (by kernel_rfl) rfl (by exact H) (fun w H => (by exact Ev.loadO 0 H rfl (agg_run rfl) (size_run rfl) (by rfl) rfl)) ?_
      refine OPH.take 2 rfl rfl rfl rfl (by kernel_rfl) (by kernel_rfl) (by kernel_rfl) rfl (by exact H) (fun w H => Ev.mvS rfl) ?_
      refine OPH.take 3 rfl rfl rfl rfl (by kernel_rfl) (by kernel_rfl) (by kernel_rfl) rfl (by exact H) (fun w H => Ev.mvI rfl) ?_
      refine OPH.take 4 rfl rfl rfl rfl (by kernel_rfl) (by kernel_rfl) (by kernel_rfl) rfl (by exact H) (fun w H => Ev.add rfl rfl (by unfold fits; omega)) ?_
      refine OPH.take 5 rfl rfl rfl rfl (by kernel_rfl) (by kernel_rfl) (by kernel_rfl) rfl (by exact H) (fun w H => Ev.mvS rfl) ?_
      refine OPH.take 6 rfl rfl rfl rfl (by kernel_rfl) (by kernel_rfl) (by kernel_rfl) rfl (by exact H) (fun w H => Ev.len (el_run rfl) rfl) ?_
      refine OPH.take 7 rfl rfl rfl rfl (by kernel_rfl) (by kernel_rfl) (by kernel_rfl) rfl (by exact H) (fun w H => Ev.rem rfl rfl (by omega) (by omega)) ?_
      refine OPH.take 8 rfl rfl rfl rfl (by kernel_rfl) (by kernel_rfl) (by kernel_rfl) rfl (by exact H) (fun w H => Ev.indexAddr (el_run rfl) (size_run rfl) rfl rfl (modCast2 j l.length) hm) ?_
      refine OPH.take 9 rfl rfl rfl rfl (by kernel_rfl) (by kernel_rfl) (by kernel_rfl) rfl (by exact H) (fun w H => (by (change Ev _ _ _ _ (Op.load 25 (Operand.tmp 21)) _; exact Ev.loadN (ptCells q) (agg_run rfl) (size_run rfl) rfl (cellsAt_sh H hcy)))) ?_
      refine OPH.take 10 rfl rfl rfl rfl (by kernel_rfl) (by kernel_rfl) (by kernel_rfl) rfl (by exact H) (fun w H => Ev.build (bld_113_0_1 rfl rfl)) ?_
      refine OPH.all [11] (by kernel_rfl) (by simp) rfl ?_
      intro i hi; simp only [List.mem_cons, List.not_mem_nil, or_false] at hi
      rcases hi with rfl
      · refine ⟨_, rfl, ?_⟩
        refine OPS.buildSlice rfl rfl rfl rfl (bsl_109_1_0 rfl) (E.toBelow hbw5) ?_
        clear H; intro g24 w E1; clear E
        have H := (E1.drop (List.sublist_cons_self _ _)).drop (List.sublist_append_left [_] _)
        refine OPS.nil ?_
        refine ⟨(by exact H), ?_⟩
        refine OPH.all [12] (by kernel_rfl) (by simp) rfl ?_
        intro i hi; simp only [List.mem_cons, List.not_mem_nil, or_false] at hi
        rcases hi with rfl
        · refine ⟨_, rfl, ?_⟩
          refine OPS.append (m := 1) (news := [I p.x, I p.y, I q.x, I q.y]) (R := [⟨g24, 113, [I p.x, I p.y, I q.x, I q.y]⟩, ⟨g5, 25, [I p.x, I p.y]⟩]) rfl rfl rfl rfl rfl (sl_run rfl) rfl rfl hO rfl (src_own E1 0 rfl) rfl (by omega) (by unfold maxLen; omega) E1 (List.Perm.refl _) ?_
          clear H hO; intro S c Lo w hO E2a; clear E1
          have E2 := E2a.drop (List.sublist_append_right [_, _] _)
          have H := (E2a.drop (List.sublist_cons_self _ _)).drop (List.sublist_append_left [_] _)
          refine OPS.nil ?_
          refine ⟨(by exact H), ?_⟩
          refine OPH.take 13 rfl rfl rfl rfl (by kernel_rfl) (by kernel_rfl) (by kernel_rfl) rfl (by exact H) (fun w H => Ev.asS rfl) ?_
          refine OPH.done (by kernel_rfl) ?_
          exact ⟨(by repeat (first | exact Agree.refl _ _ | exact Agree.mix _ _ _ | refine Agree.upd rfl ?_ | refine Agree.mix2 rfl ?_)), S, c, Lo, rfl, hO, E2⟩
    clear H
    rintro u w ⟨S, c, Lo, h3, hO, H⟩
    refine WP.know (t := 3) h3 ?_
    clear E
    refine WP.region ?_
    refine OPS.val rfl rfl rfl (Ev.add rfl rfl (by unfold fits; omega)) ?_
    refine OPS.val rfl rfl rfl (Ev.mvI rfl) ?_
    refine OPS.nil ?_
    exact ⟨(by repeat (first | exact Agree.refl _ _ | exact Agree.mix _ _ _ | refine Agree.upd rfl ?_ | refine Agree.mix2 rfl ?_)), k - 1, by omega, j + 1, S, c, Lo, by omega, rfl, rfl, (by rw [htk, List.flatMap_append, List.flatMap_cons, List.flatMap_nil, List.append_nil]; exact hO), H⟩
  refine WP.exit ?_
  refine XB.hit ?_
  refine WP.seq ?_
  refine WP.region ?_
  refine OPS.val rfl rfl rfl (Ev.mvS rfl) ?_
  refine OPS.val rfl rfl rfl (Ev.asS rfl) ?_
  refine OPS.nil ?_
  refine WP.ret ⟨_, rfl, ?_⟩
  have hj : j = l.length := by simp at hc3; omega
  subst hj
  rw [List.take_of_length_le (by rw [edgesL_len]; omega)] at hO
  exact ⟨S, c, Lo, rfl, hO, H⟩
end Go.Proofs.YtjgdklhbegplfaaGreat

/-
  Walks: whether the edges are simple; the area.
-/
set_option linter.all false
namespace Go.Proofs.YtjgdklhbegplfaaGreat
open Go Go.W Go.RowKit

def rowB (E : List Edge') (i : Nat) : Bool := !decide ((E.getD i default).a = (E.getD i default).b) && (List.range i).all fun k => !badP E.length i k (E.getD i default) (E.getD k default)
theorem simpleB_rows (E : List Edge') : simpleB E = (List.range E.length).all (rowB E) := rfl
theorem simpleB_no {E : List Edge'} {i : Nat} (hi : i < E.length) (h : rowB E i = false) : simpleB E = false := by
  rw [simpleB_rows, List.all_eq_false]
  exact ⟨i, List.mem_range.2 hi, by rw [h]; simp⟩
theorem getDe {l : List Edge'} {i : Nat} (h : i < l.length) : l.getD i default = l[i] := by rw [List.getD_eq_getElem?_getD, List.getElem?_eq_getElem h]; rfl
set_option maxHeartbeats 2000000 in
theorem geoSimple (A : Option Addr) (E : List Edge') (cap : Nat) (w0 : World) (hz : RowsAt 4 edgeCells w0 A E) (hl : E.length ≤ 1000) (hcap : E.length ≤ cap) (hok : ∀ e ∈ E, EdR e) :
    Calls Tryz.prog 40 #[.slice A E.length cap] w0 fun e w' => e = .returned (.bool (simpleB E)) ∧ Below w0.heap.size w0 w' := by
  have H := SH.refl w0
  refine Calls.ofWP Tryz.func40 rfl Tryz.results40 Tryz.ntmps40 rfl ?_
  refine WP.seq ?_
  refine WP.region ?_
  refine OPS.val rfl rfl rfl (Ev.asB rfl) ?_
  refine OPS.nil ?_
  refine WP.seq ?_
  refine WP.seq ?_
  refine WP.region ?_
  refine OPS.val rfl rfl rfl (Ev.mvS rfl) ?_
  refine OPS.val rfl rfl rfl (Ev.len (el_run rfl) rfl) ?_
  refine OPS.val rfl rfl rfl (Ev.mvI rfl) ?_
  refine OPS.nil ?_
  refine WP.block ?_
  refine WP.loop [2, 3, 4, 5, 6, 9, 10, 11, 12, 13, 14, 15, 16, 17, 18, 19, 20, 21, 22, 23, 24, 25, 26, 27, 28, 29, 30, 31, 32, 33, 34, 35, 36, 37, 38, 39, 40, 41, 42, 43, 44, 45, 46, 47, 48, 49, 50, 51, 52, 53] (fun k e w' => ∃ (i : Nat), i + k = E.length ∧ e 9 = I i ∧ (∀ i', i' < i → rowB E i' = true) ∧ SH w0 [] w' []) (E.length) (⟨0, by omega, rfl, fun _ h => absurd h (by omega), H⟩) ?_
  clear H
  rintro k u w ⟨i, hk, h9, hall, H⟩
  refine WP.know (t := 9) h9 ?_
  refine WP.seq ?_
  refine WP.region ?_
  refine OPS.val rfl rfl rfl (Ev.lss rfl rfl) ?_
  refine OPS.nil ?_
  refine WP.seq ?_
  refine WP.cond rfl (fun hc2 => ?_) (fun hc2 => ?_)
  · have hlt : i < E.length := by simpa using hc2
    obtain ⟨b, o, rfl, hcx⟩ := hz i hlt
    have hc' := cellsAt_sh H hcx
    have he := hok E[i] (List.getElem_mem hlt)
    have hge := getDe hlt
    obtain ⟨x, hx⟩ : ∃ x, x = E[i] := ⟨_, rfl⟩
    rw [← hx] at hc' he hge
    refine WP.skip ?_
    refine WP.seq ?_
    refine WP.block ?_
    refine WP.seq ?_
    refine WP.region ?_
    refine OPS.val rfl rfl rfl (Ev.mvI rfl) ?_
    refine OPS.val rfl rfl rfl ((by exact Ev.indexAddr (el_run rfl) (size_run rfl) rfl rfl rfl (by omega))) ?_
    refine OPS.val rfl rfl rfl ((by (change Ev _ _ _ _ (Op.load 113 (Operand.tmp 12)) _; exact Ev.loadN (edgeCells x) (agg_run rfl) (size_run rfl) rfl hc'))) ?_
    refine OPS.alloc rfl rfl rfl rfl (zero_run rfl) rfl H ?_
    clear H; intro g4 w H
    refine OPS.val rfl rfl rfl (Ev.asI rfl) ?_
    refine OPS.store 0 _ rfl rfl rfl (size_run rfl) rfl (cA rfl) rfl rfl H rfl (by simp) ?_
    clear H; intro w H; try simp only [List.set_cons_zero, List.set_cons_succ, putL, Nat.zero_add] at H
    refine OPS.nil ?_
    refine WP.seq ?_
    refine WP.seq ?_
    dsimp only [edgeCells] at H
    refine WP.region ?_
    refine OPS.val rfl rfl rfl (Ev.fieldAddr (fld_run rfl) rfl) ?_
    refine OPS.val rfl rfl rfl ((by exact Ev.loadN [_, _] (agg_run rfl) (size_run rfl) rfl ⟨H.ldL 0 rfl _ rfl, H.ldL 0 rfl _ rfl, trivial⟩)) ?_
    refine OPS.val rfl rfl rfl (Ev.fieldAddr (fld_run rfl) rfl) ?_
    refine OPS.val rfl rfl rfl ((by exact Ev.loadN [_, _] (agg_run rfl) (size_run rfl) rfl ⟨H.ldL 0 rfl _ rfl, H.ldL 0 rfl _ rfl, trivial⟩)) ?_
    refine OPS.val rfl rfl rfl (Ev.eqlA eqG25 (eqS25 _ _ _ _) rfl rfl) ?_
    refine OPS.nil ?_
    refine WP.cond rfl (fun hc4 => ?_) (fun hc4 => ?_)
    · have hd : x.a = x.b := by rw [ptEq] at hc4; simpa using hc4
      refine WP.seq ?_
      refine WP.region ?_
      refine OPS.val rfl rfl rfl (Ev.asB rfl) ?_
      refine OPS.nil ?_
      refine WP.ret ⟨_, rfl, ?_⟩
      exact ⟨ret_b rfl (simpleB_no hlt (by rw [rowB, hge, hd]; simp)).symm, H.below⟩
    have hd : ¬ x.a = x.b := by rw [ptEq] at hc4; simpa using hc4
    refine WP.skip ?_
    refine WP.seq ?_
    refine WP.region ?_
    refine OPS.val rfl rfl rfl (Ev.mvS rfl) ?_
    refine OPS.val rfl rfl rfl (Ev.mvI rfl) ?_
    refine OPS.val rfl rfl rfl (Ev.sliceTo (el_run rfl) ⟨_, size_run rfl⟩ rfl rfl rfl (by omega)) ?_
    refine OPS.val rfl rfl rfl (Ev.len (el_run rfl) rfl) ?_
    refine OPS.val rfl rfl rfl (Ev.mvI rfl) ?_
    refine OPS.nil ?_
    refine WP.block ?_
    refine WP.loop [2, 5, 6, 23, 24, 25, 26, 27, 28, 29, 30, 31, 32, 33, 34, 35, 36, 37, 38, 39, 40, 41, 42, 43, 44, 45, 46, 47, 48, 49, 50, 51, 52] (fun k e w' => ∃ (q : Nat), q + k = i ∧ e 23 = I q ∧ (∀ q', q' < q → badP E.length i q' x (E.getD q' default) = false) ∧ SH w0 [] w' [⟨g4, 113, [I x.a.x, I x.a.y, I x.b.x, I x.b.y]⟩]) (i) (⟨0, by omega, rfl, fun _ h => absurd h (by omega), H⟩) ?_
    clear H
    rintro k2 u2 w ⟨q, hk2, h23, hall2, H⟩
    refine WP.know (t := 23) h23 ?_
    refine WP.seq ?_
    refine WP.region ?_
    refine OPS.val rfl rfl rfl (Ev.lss rfl rfl) ?_
    refine OPS.nil ?_
    refine WP.seq ?_
    refine WP.cond rfl (fun hc7 => ?_) (fun hc7 => ?_)
    · have hlq : q < i := by simpa using hc7
      have hlq2 : q < E.length := by omega
      obtain ⟨b2, o2, e2, hcy⟩ := hz q hlq2
      cases e2
      have hd' := cellsAt_sh H hcy
      have hf := hok E[q] (List.getElem_mem hlq2)
      have hgf := getDe hlq2
      obtain ⟨y, hy⟩ : ∃ y, y = E[q] := ⟨_, rfl⟩
      rw [← hy] at hd' hf hgf
      have hbads : badP E.length i q x y = true → simpleB E = false := fun h => simpleB_no hlt (by
        rw [rowB, Bool.and_eq_false_iff]
        right
        rw [List.all_eq_false]
        exact ⟨q, List.mem_range.2 hlq, by rw [hge, hgf, h]; simp⟩)
      refine WP.skip ?_
      refine WP.seq ?_
      refine WP.block ?_
      refine WP.seq ?_
      refine WP.region ?_
      refine OPS.val rfl rfl rfl (Ev.mvI rfl) ?_
      refine OPS.val rfl rfl rfl ((by exact Ev.indexAddr (el_run rfl) (size_run rfl) rfl rfl rfl (by omega))) ?_
      refine OPS.val rfl rfl rfl ((by (change Ev _ _ _ _ (Op.load 113 (Operand.tmp 26)) _; exact Ev.loadN (edgeCells y) (agg_run rfl) (size_run rfl) rfl hd'))) ?_
      refine OPS.alloc rfl rfl rfl rfl (zero_run rfl) rfl H ?_
      clear H; intro g6 w H
      refine OPS.val rfl rfl rfl (Ev.asI rfl) ?_
      refine OPS.store 0 _ rfl rfl rfl (size_run rfl) rfl (cA rfl) rfl rfl H rfl (by simp) ?_
      clear H; intro w H; try simp only [List.set_cons_zero, List.set_cons_succ, putL, Nat.zero_add] at H
      refine OPS.nil ?_
      refine WP.block ?_
      refine WP.seq ?_
      dsimp only [edgeCells] at H
      refine WP.region ?_
      refine OPS.val rfl rfl rfl (Ev.mvI rfl) ?_
      refine OPS.val rfl rfl rfl (Ev.add rfl rfl (by unfold fits; omega)) ?_
      refine OPS.val rfl rfl rfl (Ev.mvI rfl) ?_
      refine OPS.val rfl rfl rfl (Ev.eql rfl rfl) ?_
      refine OPS.val rfl rfl rfl (Ev.asB rfl) ?_
      refine OPS.nil ?_
      refine WP.cond rfl (fun hc11 => ?_) (fun hc11 => ?_)
      · have hq1 : q + 1 = i := by simp at hc11; omega
        have hbe : badP E.length i q x y = foldB y.a y.b x.b := by rw [badP, if_pos hq1]
        refine WP.seq ?_
        refine WP.region ?_
        refine OPS.val rfl rfl rfl ((by exact Ev.loadO 0 H rfl (agg_run rfl) (size_run rfl) (by rfl) rfl)) ?_
        refine OPS.val rfl rfl rfl ((by exact Ev.loadO 1 H rfl (agg_run rfl) (size_run rfl) (by rfl) rfl)) ?_
        refine OPS.call (d := some 38) rfl rfl rfl (EvC.func (fun_run rfl)) (geoFolds y x hf he w) ?_
        rintro _ w ⟨rfl, hb⟩
        refine ⟨_, rfl, ?_⟩
        replace H := H.toBelow hb; clear hb
        refine OPS.nil ?_
        refine WP.cond rfl (fun hc12 => ?_) (fun hc12 => ?_)
        · refine WP.seq ?_
          refine WP.region ?_
          refine OPS.val rfl rfl rfl (Ev.asB rfl) ?_
          refine OPS.nil ?_
          refine WP.ret ⟨_, rfl, ?_⟩
          exact ⟨ret_b rfl (hbads (by rw [hbe]; exact hc12)).symm, H.below⟩
        have hbad : badP E.length i q x y = false := by rw [hbe]; exact hc12
        refine WP.skip ?_
        refine WP.region ?_
        refine OPS.val rfl rfl rfl (Ev.add rfl rfl (by unfold fits; omega)) ?_
        refine OPS.val rfl rfl rfl (Ev.mvI rfl) ?_
        refine OPS.nil ?_
        exact ⟨(by repeat (first | exact Agree.refl _ _ | exact Agree.mix _ _ _ | refine Agree.upd rfl ?_ | refine Agree.mix2 rfl ?_)), k2 - 1, by omega, q + 1, by omega, rfl, (fun q' h => by
          rcases Nat.lt_or_eq_of_le (Nat.le_of_lt_succ h) with h | rfl
          · exact hall2 q' h
          · rw [hgf]; exact hbad), H.drop (List.sublist_cons_self _ _)⟩
      have hq1 : ¬ q + 1 = i := by simp at hc11; omega
      refine WP.seq ?_
      refine WP.region ?_
      refine OPS.val rfl rfl rfl (Ev.mvI rfl) ?_
      refine OPS.val rfl rfl rfl (Ev.eql rfl rfl) ?_
      refine OPS.val rfl rfl rfl (Ev.mvB rfl) ?_
      refine OPS.gval rfl rfl rfl rfl rfl (fun hg => Ev.mvI (by rfl)) ?_
      refine OPS.gval rfl rfl rfl rfl rfl (fun hg => Ev.mvS (by rfl)) ?_
      refine OPS.gval rfl rfl rfl rfl rfl (fun hg => Ev.len (el_run rfl) (by exact gvE hg rfl)) ?_
      refine OPS.gval rfl rfl rfl rfl rfl (fun hg => Ev.sub (by exact gvE hg rfl) (by rfl) (by unfold fits; omega)) ?_
      refine OPS.gval rfl rfl rfl rfl rfl (fun hg => Ev.eql (by exact gvE hg rfl) (by exact gvE hg rfl)) ?_
      refine OPS.val rfl rfl rfl ((by exact Ev.pickAnd rfl rfl rfl)) ?_
      refine OPS.val rfl rfl rfl (Ev.asB rfl) ?_
      refine OPS.nil ?_
      refine WP.cond rfl (fun hc14 => ?_) (fun hc14 => ?_)
      · have hq2 : q = 0 ∧ i + 1 = E.length := by simp at hc14; omega
        have hbe : badP E.length i q x y = foldB x.a x.b y.b := by rw [badP, if_neg hq1, if_pos hq2]
        refine WP.seq ?_
        refine WP.region ?_
        refine OPS.val rfl rfl rfl ((by exact Ev.loadO 1 H rfl (agg_run rfl) (size_run rfl) (by rfl) rfl)) ?_
        refine OPS.val rfl rfl rfl ((by exact Ev.loadO 0 H rfl (agg_run rfl) (size_run rfl) (by rfl) rfl)) ?_
        refine OPS.call (d := some 51) rfl rfl rfl (EvC.func (fun_run rfl)) (geoFolds x y he hf w) ?_
        rintro _ w ⟨rfl, hb⟩
        refine ⟨_, rfl, ?_⟩
        replace H := H.toBelow hb; clear hb
        refine OPS.nil ?_
        refine WP.cond rfl (fun hc15 => ?_) (fun hc15 => ?_)
        · refine WP.seq ?_
          refine WP.region ?_
          refine OPS.val rfl rfl rfl (Ev.asB rfl) ?_
          refine OPS.nil ?_
          refine WP.ret ⟨_, rfl, ?_⟩
          exact ⟨ret_b rfl (hbads (by rw [hbe]; exact hc15)).symm, H.below⟩
        have hbad : badP E.length i q x y = false := by rw [hbe]; exact hc15
        refine WP.skip ?_
        refine WP.region ?_
        refine OPS.val rfl rfl rfl (Ev.add rfl rfl (by unfold fits; omega)) ?_
        refine OPS.val rfl rfl rfl (Ev.mvI rfl) ?_
        refine OPS.nil ?_
        exact ⟨(by repeat (first | exact Agree.refl _ _ | exact Agree.mix _ _ _ | refine Agree.upd rfl ?_ | refine Agree.mix2 rfl ?_)), k2 - 1, by omega, q + 1, by omega, rfl, (fun q' h => by
          rcases Nat.lt_or_eq_of_le (Nat.le_of_lt_succ h) with h | rfl
          · exact hall2 q' h
          · rw [hgf]; exact hbad), H.drop (List.sublist_cons_self _ _)⟩
      have hq2 : ¬ (q = 0 ∧ i + 1 = E.length) := by simp at hc14; omega
      have hbe : badP E.length i q x y = meetP x.a x.b y.a y.b := by rw [badP, if_neg hq1, if_neg hq2]
      refine WP.seq ?_
      refine WP.region ?_
      refine OPS.val rfl rfl rfl ((by exact Ev.loadO 1 H rfl (agg_run rfl) (size_run rfl) (by rfl) rfl)) ?_
      refine OPS.val rfl rfl rfl ((by exact Ev.loadO 0 H rfl (agg_run rfl) (size_run rfl) (by rfl) rfl)) ?_
      refine OPS.call (d := some 30) rfl rfl rfl (EvC.func (fun_run rfl)) (geoMeets x y he hf w) ?_
      rintro _ w ⟨rfl, hb⟩
      refine ⟨_, rfl, ?_⟩
      replace H := H.toBelow hb; clear hb
      refine OPS.nil ?_
      refine WP.cond rfl (fun hc9 => ?_) (fun hc9 => ?_)
      · refine WP.seq ?_
        refine WP.region ?_
        refine OPS.val rfl rfl rfl (Ev.asB rfl) ?_
        refine OPS.nil ?_
        refine WP.ret ⟨_, rfl, ?_⟩
        exact ⟨ret_b rfl (hbads (by rw [hbe]; exact hc9)).symm, H.below⟩
      have hbad : badP E.length i q x y = false := by rw [hbe]; exact hc9
      refine WP.skip ?_
      refine WP.region ?_
      refine OPS.val rfl rfl rfl (Ev.add rfl rfl (by unfold fits; omega)) ?_
      refine OPS.val rfl rfl rfl (Ev.mvI rfl) ?_
      refine OPS.nil ?_
      exact ⟨(by repeat (first | exact Agree.refl _ _ | exact Agree.mix _ _ _ | refine Agree.upd rfl ?_ | refine Agree.mix2 rfl ?_)), k2 - 1, by omega, q + 1, by omega, rfl, (fun q' h => by
        rcases Nat.lt_or_eq_of_le (Nat.le_of_lt_succ h) with h | rfl
        · exact hall2 q' h
        · rw [hgf]; exact hbad), H.drop (List.sublist_cons_self _ _)⟩
    refine WP.exit ?_
    refine XB.hit ?_
    refine WP.region ?_
    refine OPS.val rfl rfl rfl (Ev.add rfl rfl (by unfold fits; omega)) ?_
    refine OPS.val rfl rfl rfl (Ev.mvI rfl) ?_
    refine OPS.nil ?_
    have hq : q = i := by simp at hc7; omega
    exact ⟨(by repeat (first | exact Agree.refl _ _ | exact Agree.mix _ _ _ | refine Agree.upd rfl ?_ | refine Agree.mix2 rfl ?_)), k - 1, by omega, i + 1, by omega, rfl, (fun i' h => by
      rcases Nat.lt_or_eq_of_le (Nat.le_of_lt_succ h) with h | rfl
      · exact hall i' h
      · rw [rowB, hge, Bool.and_eq_true, List.all_eq_true]
        refine ⟨by simp [hd], fun q' hq' => ?_⟩
        rw [hall2 q' (by rw [hq]; exact List.mem_range.1 hq')]; rfl), H.drop (List.nil_sublist _)⟩
  refine WP.exit ?_
  refine XB.hit ?_
  refine WP.seq ?_
  refine WP.region ?_
  refine OPS.val rfl rfl rfl (Ev.asB rfl) ?_
  refine OPS.nil ?_
  refine WP.ret ⟨_, rfl, ?_⟩
  have hi : i = E.length := by simp at hc2; omega
  exact ⟨ret_b rfl (show simpleB E = true from List.all_eq_true.2 fun i' h => hall i' (by rw [hi]; exact List.mem_range.1 h)).symm, H.below⟩
theorem twice_bd {E : List Edge'} (h : ∀ e ∈ E, EdR e) : -(536870912 * (E.length : Int)) ≤ twiceL E ∧ twiceL E ≤ 536870912 * (E.length : Int) := by
  induction E with
  | nil => simp [twiceL]
  | cons e E ih =>
    have ih := ih fun x hx => h x (List.mem_cons_of_mem _ hx)
    obtain ⟨⟨a1, a2, a3, a4⟩, ⟨b1, b2, b3, b4⟩⟩ := h e List.mem_cons_self
    have m1 := mulAbs (a := e.a.x) (b := e.b.y) (A := 16384) (B := 16384) (by omega) (by omega)
    have m2 := mulAbs (a := e.a.y) (b := e.b.x) (A := 16384) (B := 16384) (by omega) (by omega)
    simp only [twiceL, List.length_cons]
    omega
theorem edgesL_ok {l : List Pt} (h : ∀ p ∈ l, PtR p) : ∀ e ∈ edgesL l, EdR e := fun e he => by
  obtain ⟨i, hi, rfl⟩ := List.mem_map.1 he
  have hi : i < l.length := List.mem_range.1 hi
  have hm : (i + 1) % l.length < l.length := Nat.mod_lt _ (by omega)
  unfold edgeAt
  rw [getDp hi, getDp hm]
  exact ⟨h _ (List.getElem_mem hi), h _ (List.getElem_mem hm)⟩
theorem dropE {E : List Edge'} {j : Nat} (h : j < E.length) : E.drop j = E[j] :: E.drop (j + 1) := List.drop_eq_getElem_cons h
set_option maxHeartbeats 1000000 in
theorem geoTwice (A : Option Addr) (l : List Pt) (cap : Nat) (w0 : World) (hz : RowsAt 2 ptCells w0 A l) (hl : l.length ≤ 1000) (hp : ∀ p ∈ l, PtR p) :
    Calls Tryz.prog 42 #[.slice A l.length cap] w0 fun e w' => e = .returned (I (twiceL (edgesL l))) ∧ Below w0.heap.size w0 w' := by
  have H := SH.refl w0
  have hok := edgesL_ok hp
  have hEl := edgesL_len l
  refine Calls.ofWP Tryz.func42 rfl Tryz.results42 Tryz.ntmps42 rfl ?_
  refine WP.seq ?_
  refine WP.region ?_
  refine OPS.val rfl rfl rfl (Ev.asI rfl) ?_
  refine OPS.nil ?_
  refine WP.seq ?_
  refine WP.region ?_
  refine OPS.val rfl rfl rfl (Ev.asI rfl) ?_
  refine OPS.nil ?_
  refine WP.seq ?_
  refine WP.seq ?_
  refine WP.region ?_
  refine OPS.val rfl rfl rfl (Ev.mvS rfl) ?_
  refine OPS.call (d := some 7) rfl rfl rfl (EvC.func (fun_run rfl)) (geoEdges A l cap w0 hz hl) ?_
  rintro _ w ⟨S, c, L, rfl, hO, Hc⟩
  refine ⟨_, rfl, ?_⟩
  replace H := SH.call (L1 := []) (Lv := []) H Hc
  clear Hc
  simp only [List.nil_append] at H
  have hEz : ∀ w R, SH w0 [] w (R ++ L) → RowsAt 4 edgeCells w S (edgesL l) := fun w R H => (hO.rows (l := edgesL l) edgeCells_len (by decide) H).1
  refine OPS.val rfl rfl rfl (Ev.len (el_run rfl) rfl) ?_
  refine OPS.val rfl rfl rfl (Ev.mvI rfl) ?_
  refine OPS.nil ?_
  refine WP.block ?_
  refine WP.loop [3, 5, 9, 10, 11, 12, 13, 14, 15, 16, 17, 18, 19, 20, 21, 22, 23, 24, 25, 26, 27, 28, 29, 30] (fun k e w' => ∃ (j : Nat) (s : Int), j + k = l.length ∧ e 9 = I j ∧ e 3 = I s ∧ s + twiceL ((edgesL l).drop j) = twiceL (edgesL l) ∧ (-(536870912 * (j : Int)) ≤ s ∧ s ≤ 536870912 * (j : Int)) ∧ SH w0 [] w' L) (l.length) (⟨0, 0, by omega, rfl, rfl, by simp, by omega, H⟩) ?_
  clear H
  rintro k u w ⟨j, s, hk, h9, h3, hs, hb, H⟩
  refine WP.know (t := 9) h9 (WP.know (t := 3) h3 ?_)
  refine WP.seq ?_
  refine WP.region ?_
  refine OPS.val rfl rfl rfl (Ev.lss rfl rfl) ?_
  refine OPS.nil ?_
  refine WP.seq ?_
  refine WP.cond rfl (fun hc3 => ?_) (fun hc3 => ?_)
  · have hlt : j < l.length := by simpa using hc3
    have hlt2 : j < (edgesL l).length := by omega
    obtain ⟨b, o, rfl, hcx⟩ := hEz w [] H j hlt2
    obtain ⟨⟨a1, a2, a3, a4⟩, ⟨b1, b2, b3, b4⟩⟩ := hok (edgesL l)[j] (List.getElem_mem hlt2)
    rw [dropE hlt2] at hs
    obtain ⟨x, hx⟩ : ∃ x, x = (edgesL l)[j] := ⟨_, rfl⟩
    rw [← hx] at hs hcx a1 a2 a3 a4 b1 b2 b3 b4
    have m1 := mulAbs (a := x.a.x) (b := x.b.y) (A := 16384) (B := 16384) (by omega) (by omega)
    have m2 := mulAbs (a := x.a.y) (b := x.b.x) (A := 16384) (B := 16384) (by omega) (by omega)
    rw [twiceL] at hs
    refine WP.skip ?_
    refine WP.seq ?_
    refine WP.block ?_
    refine WP.seq ?_
    refine WP.region ?_
    refine OPS.val rfl rfl rfl ((by exact Ev.indexAddr (el_run rfl) (size_run rfl) rfl rfl rfl (by omega))) ?_
    refine OPS.val rfl rfl rfl ((by (change Ev _ _ _ _ (Op.load 113 (Operand.tmp 11)) _; exact Ev.loadN (edgeCells x) (agg_run rfl) (size_run rfl) rfl hcx))) ?_
    refine OPS.alloc rfl rfl rfl rfl (zero_run rfl) rfl H ?_
    clear H; intro g5 w H
    refine OPS.store 0 _ rfl rfl rfl (size_run rfl) rfl (cA rfl) rfl rfl H rfl (by simp) ?_
    clear H; intro w H; try simp only [List.set_cons_zero, List.set_cons_succ, putL, Nat.zero_add] at H
    refine OPS.nil ?_
    dsimp only [edgeCells] at H
    refine WP.region ?_
    refine OPS.val rfl rfl rfl (Ev.mvI rfl) ?_
    refine OPS.val rfl rfl rfl (Ev.fieldAddr (fld_run rfl) rfl) ?_
    refine OPS.val rfl rfl rfl (Ev.fieldAddr (fld_run rfl) rfl) ?_
    refine OPS.val rfl rfl rfl (Ev.load1 (agg_run rfl) rfl (by exact H.ldL 0 rfl _ rfl)) ?_
    refine OPS.val rfl rfl rfl (Ev.fieldAddr (fld_run rfl) rfl) ?_
    refine OPS.val rfl rfl rfl (Ev.fieldAddr (fld_run rfl) rfl) ?_
    refine OPS.val rfl rfl rfl (Ev.load1 (agg_run rfl) rfl (by exact H.ldL 0 rfl _ rfl)) ?_
    refine OPS.val rfl rfl rfl (Ev.mul rfl rfl (by unfold fits; omega)) ?_
    refine OPS.val rfl rfl rfl (Ev.fieldAddr (fld_run rfl) rfl) ?_
    refine OPS.val rfl rfl rfl (Ev.fieldAddr (fld_run rfl) rfl) ?_
    refine OPS.val rfl rfl rfl (Ev.load1 (agg_run rfl) rfl (by exact H.ldL 0 rfl _ rfl)) ?_
    refine OPS.val rfl rfl rfl (Ev.fieldAddr (fld_run rfl) rfl) ?_
    refine OPS.val rfl rfl rfl (Ev.fieldAddr (fld_run rfl) rfl) ?_
    refine OPS.val rfl rfl rfl (Ev.load1 (agg_run rfl) rfl (by exact H.ldL 0 rfl _ rfl)) ?_
    refine OPS.val rfl rfl rfl (Ev.mul rfl rfl (by unfold fits; omega)) ?_
    refine OPS.val rfl rfl rfl (Ev.sub rfl rfl (by unfold fits; omega)) ?_
    refine OPS.val rfl rfl rfl (Ev.add rfl rfl (by unfold fits; omega)) ?_
    refine OPS.val rfl rfl rfl (Ev.asI rfl) ?_
    refine OPS.nil ?_
    refine WP.region ?_
    refine OPS.val rfl rfl rfl (Ev.add rfl rfl (by unfold fits; omega)) ?_
    refine OPS.val rfl rfl rfl (Ev.mvI rfl) ?_
    refine OPS.nil ?_
    exact ⟨(by repeat (first | exact Agree.refl _ _ | exact Agree.mix _ _ _ | refine Agree.upd rfl ?_ | refine Agree.mix2 rfl ?_)), k - 1, by omega, j + 1, s + (x.a.x * x.b.y - x.a.y * x.b.x), by omega, rfl, rfl, by omega, by omega, H.drop (List.sublist_cons_self _ _)⟩
  refine WP.exit ?_
  refine XB.hit ?_
  refine WP.seq ?_
  refine WP.region ?_
  refine OPS.val rfl rfl rfl (Ev.mvI rfl) ?_
  refine OPS.val rfl rfl rfl (Ev.asI rfl) ?_
  refine OPS.nil ?_
  refine WP.ret ⟨_, rfl, ?_⟩
  have hj : j = l.length := by simp at hc3; omega
  rw [hj, List.drop_of_length_le (by omega)] at hs
  have e1 : s = twiceL (edgesL l) := by simp [twiceL] at hs; exact hs
  subst e1
  exact ⟨rfl, H.below⟩
end Go.Proofs.YtjgdklhbegplfaaGreat

/-
  Walks: the check of a polygon, where a point lies, what a disc touches and what covers it.
-/
set_option linter.all false
namespace Go.Proofs.YtjgdklhbegplfaaGreat
open Go Go.W Go.RowKit

theorem polyErr_ok {l : List Pt} (h : polyErr l = 0) : 3 ≤ l.length ∧ l.length ≤ 32 ∧ (∀ p ∈ l, PtR p) ∧ simpleB (edgesL l) = true := by
  unfold polyErr at h
  split at h
  · cases h
  rename_i h1
  split at h
  · cases h
  rename_i h2
  split at h
  · cases h
  rename_i h3
  refine ⟨by omega, by omega, fun p hp => ptOk_iff.1 ?_, by simpa using h3⟩
  have h2 : l.all ptOk = true := by simpa using h2
  exact List.all_eq_true.1 h2 p hp
set_option maxHeartbeats 1000000 in
theorem geoCheck (A : Option Addr) (l : List Pt) (cap : Nat) (w0 : World) (hz : RowsAt 2 ptCells w0 A l) :
    Calls Tryz.prog 12 #[.slice A l.length cap] w0 fun e w' => e = .returned (I (polyErr l)) ∧ Below w0.heap.size w0 w' := by
  have H := SH.refl w0
  refine Calls.ofWP Tryz.func12 rfl Tryz.results12 Tryz.ntmps12 rfl ?_
  refine WP.seq ?_
  refine WP.region ?_
  refine OPS.val rfl rfl rfl (Ev.asI rfl) ?_
  refine OPS.nil ?_
  refine WP.seq ?_
  refine WP.seq ?_
  refine WP.region ?_
  refine OPS.val rfl rfl rfl (Ev.mvS rfl) ?_
  refine OPS.val rfl rfl rfl (Ev.len (el_run rfl) rfl) ?_
  refine OPS.val rfl rfl rfl (Ev.lss rfl rfl) ?_
  refine OPS.val rfl rfl rfl (Ev.mvB rfl) ?_
  refine OPS.gval rfl rfl rfl rfl rfl (fun hg => Ev.mvS (by rfl)) ?_
  refine OPS.gval rfl rfl rfl rfl rfl (fun hg => Ev.len (el_run rfl) (by exact gvE hg rfl)) ?_
  refine OPS.gval rfl rfl rfl rfl rfl (fun hg => Ev.gtr (by exact gvE hg rfl) (by rfl)) ?_
  refine OPS.val rfl rfl rfl ((by exact Ev.pickOr rfl rfl rfl)) ?_
  refine OPS.nil ?_
  refine WP.cond rfl (fun hc1 => ?_) (fun hc1 => ?_)
  · refine WP.seq ?_
    refine WP.region ?_
    refine OPS.val rfl rfl rfl (Ev.asI rfl) ?_
    refine OPS.nil ?_
    refine WP.ret ⟨_, rfl, ?_⟩
    have h : l.length < 3 ∨ 32 < l.length := by simp at hc1; omega
    exact ⟨ret_int (by rw [polyErr, if_pos h]), H.below⟩
  have hn : ¬ (l.length < 3 ∨ 32 < l.length) := by simp at hc1; omega
  refine WP.skip ?_
  refine WP.seq ?_
  refine WP.seq ?_
  refine WP.region ?_
  refine OPS.val rfl rfl rfl (Ev.mvS rfl) ?_
  refine OPS.val rfl rfl rfl (Ev.len (el_run rfl) rfl) ?_
  refine OPS.val rfl rfl rfl (Ev.mvI rfl) ?_
  refine OPS.nil ?_
  refine WP.block ?_
  refine WP.loop [2, 4, 15, 16, 17, 18, 19, 20, 21, 22] (fun k e w' => ∃ (i : Nat), i + k = l.length ∧ e 15 = I i ∧ (∀ i' (h : i' < l.length), i' < i → ptOk l[i'] = true) ∧ SH w0 [] w' []) (l.length) (⟨0, by omega, rfl, fun _ _ h => absurd h (by omega), H⟩) ?_
  clear H
  rintro k u w ⟨i, hk, h15, hall, H⟩
  refine WP.know (t := 15) h15 ?_
  refine WP.seq ?_
  refine WP.region ?_
  refine OPS.val rfl rfl rfl (Ev.lss rfl rfl) ?_
  refine OPS.nil ?_
  refine WP.seq ?_
  refine WP.cond rfl (fun hc4 => ?_) (fun hc4 => ?_)
  · have hlt : i < l.length := by simpa using hc4
    obtain ⟨b, o, rfl, hcx⟩ := hz i hlt
    have hc' := cellsAt_sh H hcx
    obtain ⟨p, hp⟩ : ∃ p, p = l[i] := ⟨_, rfl⟩
    rw [← hp] at hc'
    refine WP.skip ?_
    refine WP.seq ?_
    refine WP.block ?_
    refine WP.seq ?_
    refine WP.region ?_
    refine OPS.val rfl rfl rfl ((by exact Ev.indexAddr (el_run rfl) (size_run rfl) rfl rfl rfl (by omega))) ?_
    refine OPS.val rfl rfl rfl ((by (change Ev _ _ _ _ (Op.load 25 (Operand.tmp 17)) _; exact Ev.loadN (ptCells p) (agg_run rfl) (size_run rfl) rfl hc'))) ?_
    refine OPS.alloc rfl rfl rfl rfl (zero_run rfl) rfl H ?_
    clear H; intro g4 w H
    refine OPS.store 0 _ rfl rfl rfl (size_run rfl) rfl (cA rfl) rfl rfl H rfl (by simp) ?_
    clear H; intro w H; try simp only [List.set_cons_zero, List.set_cons_succ, putL, Nat.zero_add] at H
    refine OPS.nil ?_
    refine WP.seq ?_
    dsimp only [ptCells] at H
    refine WP.region ?_
    refine OPS.val rfl rfl rfl ((by exact Ev.loadO 0 H rfl (agg_run rfl) (size_run rfl) (by rfl) rfl)) ?_
    refine OPS.call (d := some 20) rfl rfl rfl (EvC.func (fun_run rfl)) (geoValid p w) ?_
    rintro _ w ⟨rfl, hb⟩
    refine ⟨_, rfl, ?_⟩
    replace H := H.toBelow hb; clear hb
    refine OPS.val rfl rfl rfl (Ev.not rfl) ?_
    refine OPS.nil ?_
    refine WP.cond rfl (fun hc6 => ?_) (fun hc6 => ?_)
    · refine WP.seq ?_
      refine WP.region ?_
      refine OPS.val rfl rfl rfl (Ev.asI rfl) ?_
      refine OPS.nil ?_
      refine WP.ret ⟨_, rfl, ?_⟩
      have hv : ptOk p = false := by simpa using hc6
      refine ⟨ret_int ?_, H.below⟩
      rw [polyErr, if_neg hn, if_pos (by rw [List.all_eq_false]; exact ⟨p, by rw [hp]; exact List.getElem_mem hlt, by rw [hv]; simp⟩)]
    have hv : ptOk p = true := by simpa using hc6
    refine WP.skip ?_
    refine WP.region ?_
    refine OPS.val rfl rfl rfl (Ev.add rfl rfl (by unfold fits; omega)) ?_
    refine OPS.val rfl rfl rfl (Ev.mvI rfl) ?_
    refine OPS.nil ?_
    exact ⟨(by repeat (first | exact Agree.refl _ _ | exact Agree.mix _ _ _ | refine Agree.upd rfl ?_ | refine Agree.mix2 rfl ?_)), k - 1, by omega, i + 1, by omega, rfl, (fun i' h1 h2 => by
      rcases Nat.lt_or_eq_of_le (Nat.le_of_lt_succ h2) with h | rfl
      · exact hall i' h1 h
      · rw [← hp]; exact hv), H.drop (List.nil_sublist _)⟩
  have hi : i = l.length := by simp at hc4; omega
  have hok : ∀ p ∈ l, PtR p := fun p hp => by
    obtain ⟨j, hj, rfl⟩ := List.mem_iff_getElem.1 hp
    exact ptOk_iff.1 (hall j hj (by omega))
  have hall2 : ¬ l.all ptOk = false := by
    have : l.all ptOk = true := List.all_eq_true.2 fun p hp => ptOk_iff.2 (hok p hp)
    rw [this]; simp
  have hEok := edgesL_ok hok
  have hEl := edgesL_len l
  refine WP.exit ?_
  refine XB.hit ?_
  refine WP.seq ?_
  refine WP.block ?_
  refine WP.seq ?_
  refine WP.region ?_
  refine OPS.val rfl rfl rfl (Ev.mvS rfl) ?_
  refine OPS.call (d := some 25) rfl rfl rfl (EvC.func (fun_run rfl)) (geoEdges A l cap w (hz.sh H) (by omega)) ?_
  rintro _ w ⟨S, c, L, rfl, hO, Hc⟩
  refine ⟨_, rfl, ?_⟩
  replace H := SH.call (L1 := []) (Lv := []) H Hc
  clear Hc
  simp only [List.nil_append] at H
  have hEz : RowsAt 4 edgeCells w S (edgesL l) := (hO.rows (R := []) (l := edgesL l) edgeCells_len (by decide) H).1
  have hcap : l.length ≤ c := by rcases hO.form with ⟨_, q, _, _⟩ | ⟨_, _, _, _, q, _, _⟩ <;> omega
  have hsim := geoSimple S (edgesL l) c w hEz (by omega) (by omega) hEok
  rw [hEl] at hsim
  refine OPS.call (d := some 26) rfl rfl rfl (EvC.func (fun_run rfl)) (hsim) ?_
  rintro _ w ⟨rfl, hb⟩
  refine ⟨_, rfl, ?_⟩
  replace H := H.toBelow hb; clear hb
  refine OPS.val rfl rfl rfl (Ev.not rfl) ?_
  refine OPS.val rfl rfl rfl (Ev.asB rfl) ?_
  refine OPS.nil ?_
  refine WP.cond rfl (fun hc9 => ?_) (fun hc9 => ?_)
  · refine WP.seq ?_
    refine WP.region ?_
    refine OPS.val rfl rfl rfl (Ev.asI rfl) ?_
    refine OPS.nil ?_
    refine WP.ret ⟨_, rfl, ?_⟩
    have h : simpleB (edgesL l) = false := by simpa using hc9
    exact ⟨ret_int (by rw [polyErr, if_neg hn, if_neg hall2, if_pos h]), H.below⟩
  have h3 : ¬ simpleB (edgesL l) = false := by simpa using hc9
  refine WP.seq ?_
  refine WP.region ?_
  refine OPS.val rfl rfl rfl (Ev.mvS rfl) ?_
  refine OPS.call (d := some 30) rfl rfl rfl (EvC.func (fun_run rfl)) (geoTwice A l cap w (hz.sh H) (by omega) hok) ?_
  rintro _ w ⟨rfl, hb⟩
  refine ⟨_, rfl, ?_⟩
  replace H := H.toBelow hb; clear hb
  refine OPS.val rfl rfl rfl (Ev.lss rfl rfl) ?_
  refine OPS.val rfl rfl rfl (Ev.asB rfl) ?_
  refine OPS.nil ?_
  refine WP.cond rfl (fun hc11 => ?_) (fun hc11 => ?_)
  · refine WP.seq ?_
    refine WP.region ?_
    refine OPS.val rfl rfl rfl (Ev.asI rfl) ?_
    refine OPS.nil ?_
    refine WP.ret ⟨_, rfl, ?_⟩
    have h : twiceL (edgesL l) < 0 := by simpa using hc11
    exact ⟨ret_int (by rw [polyErr, if_neg hn, if_neg hall2, if_neg h3, if_pos h]), H.below⟩
  refine WP.skip ?_
  refine WP.seq ?_
  refine WP.region ?_
  refine OPS.val rfl rfl rfl (Ev.asI rfl) ?_
  refine OPS.nil ?_
  refine WP.ret ⟨_, rfl, ?_⟩
  have h : ¬ twiceL (edgesL l) < 0 := by simpa using hc11
  exact ⟨ret_int (by rw [polyErr, if_neg hn, if_neg hall2, if_neg h3, if_neg h]), H.below⟩
set_option maxHeartbeats 1000000 in
theorem geoWhere (A : Option Addr) (l : List Pt) (cap : Nat) (c : Pt) (w0 : World) (hz : RowsAt 2 ptCells w0 A l) (hl : l.length ≤ 1000) (hp : ∀ p ∈ l, PtR p) (hc : PtR c) :
    Calls Tryz.prog 14 #[.slice A l.length cap, .agg #[I c.x, I c.y]] w0 fun e w' => e = .returned (I (whereV c (-1) (edgesL l))) ∧ Below w0.heap.size w0 w' := by
  have H := SH.refl w0
  have hok := edgesL_ok hp
  have hEl := edgesL_len l
  refine Calls.ofWP Tryz.func14 rfl Tryz.results14 Tryz.ntmps14 rfl ?_
  refine WP.seq ?_
  refine WP.region ?_
  refine OPS.box rfl rfl rfl rfl (cA rfl) H ?_
  clear H; intro g3 w H
  refine OPS.val rfl rfl rfl (Ev.asI rfl) ?_
  refine OPS.nil ?_
  refine WP.seq ?_
  refine WP.region ?_
  refine OPS.val rfl rfl rfl (Ev.asI rfl) ?_
  refine OPS.nil ?_
  refine WP.seq ?_
  refine WP.seq ?_
  refine WP.region ?_
  refine OPS.val rfl rfl rfl (Ev.mvS rfl) ?_
  refine OPS.call (d := some 9) rfl rfl rfl (EvC.func (fun_run rfl)) (geoEdges A l cap w (hz.sh H) hl) ?_
  rintro _ w ⟨S, ce, L, rfl, hO, Hc⟩
  refine ⟨_, rfl, ?_⟩
  replace H := SH.call (Lv := []) (by rw [List.append_nil]; exact H) Hc
  clear Hc
  simp only [List.cons_append, List.nil_append] at H
  have hEz : ∀ w R, SH w0 [] w (R ++ L) → RowsAt 4 edgeCells w S (edgesL l) := fun w R H => (hO.rows (l := edgesL l) edgeCells_len (by decide) H).1
  refine OPS.val rfl rfl rfl (Ev.len (el_run rfl) rfl) ?_
  refine OPS.val rfl rfl rfl (Ev.mvI rfl) ?_
  refine OPS.nil ?_
  refine WP.block ?_
  refine WP.loop [4, 5, 7, 11, 12, 13, 14, 15, 16, 17, 18, 19, 20, 21, 22, 23, 24, 25, 26, 27, 28, 29, 30, 31, 32, 33, 34, 35, 36, 37, 38, 39, 40, 41, 42, 43, 44, 45, 46, 47, 48, 49, 50] (fun k e w' => ∃ (j : Nat) (o : Int), j + k = l.length ∧ e 11 = I j ∧ e 5 = I o ∧ whereV c o ((edgesL l).drop j) = whereV c (-1) (edgesL l) ∧ (o = 1 ∨ o = -1) ∧ SH w0 [] w' (⟨g3, 25, [I c.x, I c.y]⟩ :: L)) (l.length) (⟨0, -1, by omega, rfl, rfl, by simp, by omega, H⟩) ?_
  clear H
  rintro k u w ⟨j, o, hk, h11, h5, hs, ho, H⟩
  refine WP.know (t := 11) h11 (WP.know (t := 5) h5 ?_)
  refine WP.seq ?_
  refine WP.region ?_
  refine OPS.val rfl rfl rfl (Ev.lss rfl rfl) ?_
  refine OPS.nil ?_
  refine WP.seq ?_
  refine WP.cond rfl (fun hc3 => ?_) (fun hc3 => ?_)
  · have hlt : j < l.length := by simpa using hc3
    have hlt2 : j < (edgesL l).length := by omega
    obtain ⟨b, of, rfl, hcx⟩ := hEz w [_] H j hlt2
    have hx' := hok (edgesL l)[j] (List.getElem_mem hlt2)
    rw [dropE hlt2, whereV] at hs
    obtain ⟨x, hx⟩ : ∃ x, x = (edgesL l)[j] := ⟨_, rfl⟩
    rw [← hx] at hs hcx hx'
    refine WP.skip ?_
    refine WP.seq ?_
    refine WP.block ?_
    refine WP.seq ?_
    refine WP.region ?_
    refine OPS.val rfl rfl rfl ((by exact Ev.indexAddr (el_run rfl) (size_run rfl) rfl rfl rfl (by omega))) ?_
    refine OPS.val rfl rfl rfl ((by (change Ev _ _ _ _ (Op.load 113 (Operand.tmp 13)) _; exact Ev.loadN (edgeCells x) (agg_run rfl) (size_run rfl) rfl hcx))) ?_
    refine OPS.alloc rfl rfl rfl rfl (zero_run rfl) rfl H ?_
    clear H; intro g7 w H
    refine OPS.store 0 _ rfl rfl rfl (size_run rfl) rfl (cA rfl) rfl rfl H rfl (by simp) ?_
    clear H; intro w H; try simp only [List.set_cons_zero, List.set_cons_succ, putL, Nat.zero_add] at H
    refine OPS.nil ?_
    refine WP.seq ?_
    refine WP.seq ?_
    dsimp only [edgeCells] at H
    refine WP.region ?_
    refine OPS.val rfl rfl rfl ((by exact Ev.loadO 0 H rfl (agg_run rfl) (size_run rfl) (by rfl) rfl)) ?_
    refine OPS.val rfl rfl rfl ((by exact Ev.loadO 1 H rfl (agg_run rfl) (size_run rfl) (by rfl) rfl)) ?_
    refine OPS.call (d := some 17) rfl rfl rfl (EvC.func (fun_run rfl)) (geoHas x c hx'.a hx'.b hc w) ?_
    rintro _ w ⟨rfl, hb⟩
    refine ⟨_, rfl, ?_⟩
    replace H := H.toBelow hb; clear hb
    refine OPS.nil ?_
    refine WP.cond rfl (fun hc5 => ?_) (fun hc5 => ?_)
    · refine WP.seq ?_
      refine WP.region ?_
      refine OPS.val rfl rfl rfl (Ev.asI rfl) ?_
      refine OPS.nil ?_
      refine WP.ret ⟨_, rfl, ?_⟩
      have hh : hasB x.a x.b c = true := hc5
      rw [if_pos hh] at hs
      exact ⟨ret_int hs, H.below⟩
    have hh : hasB x.a x.b c = false := hc5
    rw [if_neg (by rw [hh]; simp)] at hs
    refine WP.skip ?_
    refine WP.seq ?_
    refine WP.rquiet mixed (by kernel_rfl) H ?_
    clear H; intro w hbw7 H
    refine OPS.val rfl rfl rfl (Ev.fieldAddr (fld_run rfl) rfl) ?_
    refine OPS.val rfl rfl rfl (Ev.fieldAddr (fld_run rfl) rfl) ?_
    refine OPS.val rfl rfl rfl (Ev.load1 (agg_run rfl) rfl (by exact H.ldL 0 rfl _ rfl)) ?_
    refine OPS.val rfl rfl rfl (Ev.fieldAddr (fld_run rfl) rfl) ?_
    refine OPS.val rfl rfl rfl (Ev.load1 (agg_run rfl) rfl (by exact H.ldL 1 rfl _ rfl)) ?_
    refine OPS.val rfl rfl rfl (Ev.gtr rfl rfl) ?_
    refine OPS.val rfl rfl rfl (Ev.fieldAddr (fld_run rfl) rfl) ?_
    refine OPS.val rfl rfl rfl (Ev.fieldAddr (fld_run rfl) rfl) ?_
    refine OPS.val rfl rfl rfl (Ev.load1 (agg_run rfl) rfl (by exact H.ldL 0 rfl _ rfl)) ?_
    refine OPS.val rfl rfl rfl (Ev.fieldAddr (fld_run rfl) rfl) ?_
    refine OPS.val rfl rfl rfl (Ev.load1 (agg_run rfl) rfl (by exact H.ldL 1 rfl _ rfl)) ?_
    refine OPS.val rfl rfl rfl (Ev.gtr rfl rfl) ?_
    refine OPS.val rfl rfl rfl (Ev.neqB Tryz.runUnderlying4 rfl rfl) ?_
    refine OPS.val rfl rfl rfl (Ev.mvB rfl) ?_
    refine OPS.gval rfl rfl rfl rfl rfl (fun hg => Ev.fieldAddr (fld_run rfl) (by rfl)) ?_
    refine OPS.gval rfl rfl rfl rfl rfl (fun hg => (by exact Ev.loadN [_, _] (agg_run rfl) (size_run rfl) (by exact gvE hg rfl) ⟨H.ldL 0 rfl _ rfl, H.ldL 0 rfl _ rfl, trivial⟩)) ?_
    refine OPS.gval rfl rfl rfl rfl rfl (fun hg => Ev.fieldAddr (fld_run rfl) (by rfl)) ?_
    refine OPS.gval rfl rfl rfl rfl rfl (fun hg => (by exact Ev.loadN [_, _] (agg_run rfl) (size_run rfl) (by exact gvE hg rfl) ⟨H.ldL 0 rfl _ rfl, H.ldL 0 rfl _ rfl, trivial⟩)) ?_
    refine OPS.gval rfl rfl rfl rfl rfl (fun hg => (by exact Ev.loadO 1 H rfl (agg_run rfl) (size_run rfl) (by rfl) rfl)) ?_
    refine OPS.gcallq2 (f := 44) (fun hg w2 hb2 => geoCross x.a x.b c hx'.a hx'.b hc w2) rfl rfl rfl rfl rfl (fun hg => EvC.conv (EvC.func (fun_run rfl)) (l3 (by exact gvE hg rfl) (by exact gvE hg rfl) (by exact gvE hg rfl))) ?_
    refine OPS.gval rfl rfl rfl rfl rfl (fun hg => Ev.gtr (by exact gvE hg rfl) (by rfl)) ?_
    refine OPS.gval rfl rfl rfl rfl rfl (fun hg => Ev.fieldAddr (fld_run rfl) (by rfl)) ?_
    refine OPS.gval rfl rfl rfl rfl rfl (fun hg => Ev.fieldAddr (fld_run rfl) (by exact gvE hg rfl)) ?_
    refine OPS.gval rfl rfl rfl rfl rfl (fun hg => Ev.load1 (agg_run rfl) (by exact gvE hg rfl) (by exact H.ldL 0 rfl _ rfl)) ?_
    refine OPS.gval rfl rfl rfl rfl rfl (fun hg => Ev.fieldAddr (fld_run rfl) (by rfl)) ?_
    refine OPS.gval rfl rfl rfl rfl rfl (fun hg => Ev.fieldAddr (fld_run rfl) (by exact gvE hg rfl)) ?_
    refine OPS.gval rfl rfl rfl rfl rfl (fun hg => Ev.load1 (agg_run rfl) (by exact gvE hg rfl) (by exact H.ldL 0 rfl _ rfl)) ?_
    refine OPS.gval rfl rfl rfl rfl rfl (fun hg => Ev.gtr (by exact gvE hg rfl) (by exact gvE hg rfl)) ?_
    refine OPS.gval rfl rfl rfl rfl rfl (fun hg => Ev.eqlB Tryz.runUnderlying4 (by exact gvE hg rfl) (by exact gvE hg rfl)) ?_
    refine OPS.val rfl rfl rfl ((by exact Ev.pickAnd rfl rfl rfl)) ?_
    refine OPS.nilq H ?_
    clear H; intro w hbx7 H
    refine WP.cond rfl (fun hc7 => ?_) (fun hc7 => ?_)
    · have hfl : flipB x c = true := by unfold flipB; exact hc7
      rw [if_pos hfl] at hs
      refine WP.region ?_
      refine OPS.val rfl rfl rfl (Ev.mvI rfl) ?_
      refine OPS.val rfl rfl rfl (Ev.neg rfl (by unfold fits; omega)) ?_
      refine OPS.val rfl rfl rfl (Ev.asI rfl) ?_
      refine OPS.nil ?_
      refine WP.region ?_
      refine OPS.val rfl rfl rfl (Ev.add rfl rfl (by unfold fits; omega)) ?_
      refine OPS.val rfl rfl rfl (Ev.mvI rfl) ?_
      refine OPS.nil ?_
      first
        | exact ⟨(by repeat (first | exact Agree.refl _ _ | exact Agree.mix _ _ _ | refine Agree.upd rfl ?_ | refine Agree.mix2 rfl ?_)), k - 1, by omega, j + 1, o, by omega, rfl, rfl, hs, by omega, H.drop (List.sublist_cons_self _ _)⟩
        | exact ⟨(by repeat (first | exact Agree.refl _ _ | exact Agree.mix _ _ _ | refine Agree.upd rfl ?_ | refine Agree.mix2 rfl ?_)), k - 1, by omega, j + 1, -o, by omega, rfl, rfl, hs, by omega, H.drop (List.sublist_cons_self _ _)⟩
    have hfl : flipB x c = false := by unfold flipB; exact hc7
    rw [if_neg (by rw [hfl]; simp)] at hs
    refine WP.skip ?_
    refine WP.region ?_
    refine OPS.val rfl rfl rfl (Ev.add rfl rfl (by unfold fits; omega)) ?_
    refine OPS.val rfl rfl rfl (Ev.mvI rfl) ?_
    refine OPS.nil ?_
    first
      | exact ⟨(by repeat (first | exact Agree.refl _ _ | exact Agree.mix _ _ _ | refine Agree.upd rfl ?_ | refine Agree.mix2 rfl ?_)), k - 1, by omega, j + 1, o, by omega, rfl, rfl, hs, by omega, H.drop (List.sublist_cons_self _ _)⟩
      | exact ⟨(by repeat (first | exact Agree.refl _ _ | exact Agree.mix _ _ _ | refine Agree.upd rfl ?_ | refine Agree.mix2 rfl ?_)), k - 1, by omega, j + 1, -o, by omega, rfl, rfl, hs, by omega, H.drop (List.sublist_cons_self _ _)⟩
  refine WP.exit ?_
  refine XB.hit ?_
  refine WP.seq ?_
  refine WP.region ?_
  refine OPS.val rfl rfl rfl (Ev.mvI rfl) ?_
  refine OPS.val rfl rfl rfl (Ev.asI rfl) ?_
  refine OPS.nil ?_
  refine WP.ret ⟨_, rfl, ?_⟩
  have hj : j = l.length := by simp at hc3; omega
  rw [hj, List.drop_of_length_le (by omega), whereV] at hs
  exact ⟨ret_int hs, H.below⟩
def inErr (l : List Pt) (c : Pt) : Int := if polyErr l ≠ 0 then polyErr l else if ptOk c = false then 1 else 0
def inVal (l : List Pt) (c : Pt) : Int := if inErr l c = 0 then whereV c (-1) (edgesL l) else 0
theorem inErr_ok {l : List Pt} {c : Pt} (h : inErr l c = 0) : polyErr l = 0 ∧ PtR c := by
  unfold inErr at h
  split at h
  · rename_i h1; exact absurd h h1
  · rename_i h1
    split at h
    · cases h
    · rename_i h2
      exact ⟨Classical.not_not.1 h1, ptOk_iff.1 (by simpa using h2)⟩
theorem geoInside (A : Option Addr) (l : List Pt) (cap : Nat) (c : Pt) (w0 : World) (hz : RowsAt 2 ptCells w0 A l) :
    Calls Tryz.prog 7 #[.slice A l.length cap, .agg #[I c.x, I c.y]] w0 fun e w' => e = .returned (.tuple #[I (inVal l c), I (inErr l c)]) ∧ Below w0.heap.size w0 w' := by
  have H := SH.refl w0
  refine Calls.ofWP Tryz.func7 rfl Tryz.results7 Tryz.ntmps7 rfl ?_
  refine WP.seq ?_
  refine WP.region ?_
  refine OPS.box rfl rfl rfl rfl (cA rfl) H ?_
  clear H; intro g3 w H
  refine OPS.val rfl rfl rfl (Ev.asI rfl) ?_
  refine OPS.val rfl rfl rfl (Ev.asI rfl) ?_
  refine OPS.nil ?_
  refine WP.seq ?_
  refine WP.seq ?_
  refine WP.region ?_
  refine OPS.val rfl rfl rfl (Ev.mvS rfl) ?_
  refine OPS.call (d := some 8) rfl rfl rfl (EvC.func (fun_run rfl)) (geoCheck A l cap w (hz.sh H)) ?_
  rintro _ w ⟨rfl, hb⟩
  refine ⟨_, rfl, ?_⟩
  replace H := H.toBelow hb; clear hb
  refine OPS.val rfl rfl rfl (Ev.asI rfl) ?_
  refine OPS.nil ?_
  refine WP.seq ?_
  refine WP.region ?_
  refine OPS.val rfl rfl rfl (Ev.mvI rfl) ?_
  refine OPS.val rfl rfl rfl (Ev.neq rfl rfl) ?_
  refine OPS.nil ?_
  refine WP.cond rfl (fun hc2 => ?_) (fun hc2 => ?_)
  · refine WP.seq ?_
    refine WP.region ?_
    refine OPS.val rfl rfl rfl (Ev.mvI rfl) ?_
    refine OPS.val rfl rfl rfl (Ev.asI rfl) ?_
    refine OPS.val rfl rfl rfl (Ev.asI rfl) ?_
    refine OPS.nil ?_
    refine WP.ret ⟨_, rfl, ?_⟩
    have h1 : polyErr l ≠ 0 := by simpa using hc2
    have he : inErr l c = polyErr l := by rw [inErr, if_pos h1]
    exact ⟨by rw [inVal, he, if_neg h1]; rfl, H.below⟩
  have h1 : ¬ polyErr l ≠ 0 := by simpa using hc2
  obtain ⟨k1, k2, k3, k4⟩ := polyErr_ok (Classical.not_not.1 h1)
  refine WP.skip ?_
  refine WP.seq ?_
  refine WP.seq ?_
  refine WP.region ?_
  refine OPS.val rfl rfl rfl ((by exact Ev.loadO 0 H rfl (agg_run rfl) (size_run rfl) (by rfl) rfl)) ?_
  refine OPS.call (d := some 13) rfl rfl rfl (EvC.func (fun_run rfl)) (geoValid c w) ?_
  rintro _ w ⟨rfl, hb⟩
  refine ⟨_, rfl, ?_⟩
  replace H := H.toBelow hb; clear hb
  refine OPS.val rfl rfl rfl (Ev.not rfl) ?_
  refine OPS.nil ?_
  refine WP.cond rfl (fun hc4 => ?_) (fun hc4 => ?_)
  · refine WP.seq ?_
    refine WP.region ?_
    refine OPS.val rfl rfl rfl (Ev.asI rfl) ?_
    refine OPS.val rfl rfl rfl (Ev.asI rfl) ?_
    refine OPS.nil ?_
    refine WP.ret ⟨_, rfl, ?_⟩
    have h2 : ptOk c = false := by simpa using hc4
    have he : inErr l c = 1 := by rw [inErr, if_neg h1, if_pos h2]
    exact ⟨by rw [inVal, he, if_neg (by decide)]; rfl, H.below⟩
  have h2 : ptOk c = true := by simpa using hc4
  have he : inErr l c = 0 := by rw [inErr, if_neg h1, if_neg (by rw [h2]; simp)]
  refine WP.skip ?_
  refine WP.seq ?_
  refine WP.region ?_
  refine OPS.val rfl rfl rfl (Ev.mvS rfl) ?_
  refine OPS.val rfl rfl rfl ((by exact Ev.loadO 0 H rfl (agg_run rfl) (size_run rfl) (by rfl) rfl)) ?_
  refine OPS.call (d := some 17) rfl rfl rfl (EvC.func (fun_run rfl)) (geoWhere A l cap c w (hz.sh H) (by omega) k3 (ptOk_iff.1 h2)) ?_
  rintro _ w ⟨rfl, hb⟩
  refine ⟨_, rfl, ?_⟩
  replace H := H.toBelow hb; clear hb
  refine OPS.val rfl rfl rfl (Ev.asI rfl) ?_
  refine OPS.val rfl rfl rfl (Ev.asI rfl) ?_
  refine OPS.nil ?_
  refine WP.ret ⟨_, rfl, ?_⟩
  exact ⟨by rw [inVal, he, if_pos rfl]; rfl, H.below⟩
def discErr (l : List Pt) (c : Pt) (r : Int) : Int := if inErr l c ≠ 0 then inErr l c else if r < 0 ∨ 16384 < r then 1 else 0
set_option maxHeartbeats 1000000 in
theorem geoDisc (A : Option Addr) (l : List Pt) (cap : Nat) (c : Pt) (r : Int) (w0 : World) (hz : RowsAt 2 ptCells w0 A l) :
    Calls Tryz.prog 151 #[.slice A l.length cap, .agg #[I c.x, I c.y], I r] w0 fun e w' => e = .returned (.tuple #[I (if discErr l c r = 0 then whereV c (-1) (edgesL l) else 0), I (if discErr l c r = 0 then leastV c r 1 (edgesL l) else 0), I (discErr l c r)]) ∧ Below w0.heap.size w0 w' := by
  have H := SH.refl w0
  refine Calls.ofWP Tryz.func151 rfl Tryz.results151 Tryz.ntmps151 rfl ?_
  refine WP.seq ?_
  refine WP.region ?_
  refine OPS.box rfl rfl rfl rfl (cA rfl) H ?_
  clear H; intro g4 w H
  refine OPS.val rfl rfl rfl (Ev.asI rfl) ?_
  refine OPS.val rfl rfl rfl (Ev.asI rfl) ?_
  refine OPS.val rfl rfl rfl (Ev.asI rfl) ?_
  refine OPS.nil ?_
  refine WP.seq ?_
  refine WP.region ?_
  refine OPS.val rfl rfl rfl (Ev.mvS rfl) ?_
  refine OPS.val rfl rfl rfl ((by exact Ev.loadO 0 H rfl (agg_run rfl) (size_run rfl) (by rfl) rfl)) ?_
  refine OPS.call (d := some 17) rfl rfl rfl (EvC.func (fun_run rfl)) (geoInside A l cap c w (hz.sh H)) ?_
  rintro _ w ⟨rfl, hb⟩
  refine ⟨_, rfl, ?_⟩
  replace H := H.toBelow hb; clear hb
  refine OPS.val rfl rfl rfl (Ev.mvT rfl) ?_
  refine OPS.val rfl rfl rfl (Ev.extract rfl rfl) ?_
  refine OPS.val rfl rfl rfl (Ev.extract rfl rfl) ?_
  refine OPS.val rfl rfl rfl (Ev.asI rfl) ?_
  refine OPS.val rfl rfl rfl (Ev.asI rfl) ?_
  refine OPS.nil ?_
  refine WP.seq ?_
  refine WP.seq ?_
  refine WP.region ?_
  refine OPS.val rfl rfl rfl (Ev.mvI rfl) ?_
  refine OPS.val rfl rfl rfl (Ev.neq rfl rfl) ?_
  refine OPS.nil ?_
  refine WP.cond rfl (fun hc2 => ?_) (fun hc2 => ?_)
  · refine WP.seq ?_
    refine WP.region ?_
    refine OPS.val rfl rfl rfl (Ev.mvI rfl) ?_
    refine OPS.val rfl rfl rfl (Ev.asI rfl) ?_
    refine OPS.val rfl rfl rfl (Ev.asI rfl) ?_
    refine OPS.val rfl rfl rfl (Ev.asI rfl) ?_
    refine OPS.nil ?_
    refine WP.ret ⟨_, rfl, ?_⟩
    have h1 : inErr l c ≠ 0 := by simpa using hc2
    have he : discErr l c r = inErr l c := by rw [discErr, if_pos h1]
    exact ⟨by rw [he, if_neg h1, if_neg h1]; rfl, H.below⟩
  have h1 : ¬ inErr l c ≠ 0 := by simpa using hc2
  have h1' := Classical.not_not.1 h1
  obtain ⟨kp, kc⟩ := inErr_ok h1'
  obtain ⟨k1, k2, k3, k4⟩ := polyErr_ok kp
  have hiv : inVal l c = whereV c (-1) (edgesL l) := by rw [inVal, if_pos h1']
  have hok := edgesL_ok k3
  have hEl := edgesL_len l
  refine WP.skip ?_
  refine WP.seq ?_
  refine WP.seq ?_
  refine WP.region ?_
  refine OPS.val rfl rfl rfl (Ev.mvI rfl) ?_
  refine OPS.val rfl rfl rfl (Ev.lss rfl rfl) ?_
  refine OPS.val rfl rfl rfl (Ev.mvB rfl) ?_
  refine OPS.gval rfl rfl rfl rfl rfl (fun hg => Ev.mvI (by rfl)) ?_
  refine OPS.gval rfl rfl rfl rfl rfl (fun hg => Ev.gtr (by exact gvE hg rfl) (by rfl)) ?_
  refine OPS.val rfl rfl rfl ((by exact Ev.pickOr rfl rfl rfl)) ?_
  refine OPS.nil ?_
  refine WP.cond rfl (fun hc4 => ?_) (fun hc4 => ?_)
  · refine WP.seq ?_
    refine WP.region ?_
    refine OPS.val rfl rfl rfl (Ev.asI rfl) ?_
    refine OPS.val rfl rfl rfl (Ev.asI rfl) ?_
    refine OPS.val rfl rfl rfl (Ev.asI rfl) ?_
    refine OPS.nil ?_
    refine WP.ret ⟨_, rfl, ?_⟩
    have h2 : r < 0 ∨ 16384 < r := by simp at hc4; omega
    have he : discErr l c r = 1 := by rw [discErr, if_neg h1, if_pos h2]
    exact ⟨by rw [he, if_neg (by decide), if_neg (by decide)]; rfl, H.below⟩
  have h2 : ¬ (r < 0 ∨ 16384 < r) := by simp at hc4; omega
  have he : discErr l c r = 0 := by rw [discErr, if_neg h1, if_neg h2]
  rw [he, if_pos rfl, if_pos rfl]
  refine WP.skip ?_
  refine WP.seq ?_
  refine WP.region ?_
  refine OPS.val rfl rfl rfl (Ev.asI rfl) ?_
  refine OPS.nil ?_
  refine WP.seq ?_
  refine WP.seq ?_
  refine WP.region ?_
  refine OPS.val rfl rfl rfl (Ev.mvS rfl) ?_
  refine OPS.call (d := some 30) rfl rfl rfl (EvC.func (fun_run rfl)) (geoEdges A l cap w (hz.sh H) (by omega)) ?_
  rintro _ w ⟨S, ce, L, rfl, hO, Hc⟩
  refine ⟨_, rfl, ?_⟩
  replace H := SH.call (Lv := []) (by rw [List.append_nil]; exact H) Hc
  clear Hc
  simp only [List.cons_append, List.nil_append] at H
  have hEz : ∀ w R, SH w0 [] w (R ++ L) → RowsAt 4 edgeCells w S (edgesL l) := fun w R H => (hO.rows (l := edgesL l) edgeCells_len (by decide) H).1
  refine OPS.val rfl rfl rfl (Ev.len (el_run rfl) rfl) ?_
  refine OPS.val rfl rfl rfl (Ev.mvI rfl) ?_
  refine OPS.nil ?_
  refine WP.block ?_
  refine WP.loop [11, 13, 32, 33, 34, 35, 36, 37, 38, 39, 40, 41, 42] (fun k e w' => ∃ (j : Nat) (m : Int), j + k = l.length ∧ e 32 = I j ∧ e 11 = I m ∧ leastV c r m ((edgesL l).drop j) = leastV c r 1 (edgesL l) ∧ SH w0 [] w' (⟨g4, 25, [I c.x, I c.y]⟩ :: L)) (l.length) (⟨0, 1, by omega, rfl, rfl, by simp, H⟩) ?_
  clear H
  rintro k u w ⟨j, m, hk, h32, h11, hs, H⟩
  refine WP.know (t := 32) h32 (WP.know (t := 11) h11 ?_)
  refine WP.seq ?_
  refine WP.region ?_
  refine OPS.val rfl rfl rfl (Ev.lss rfl rfl) ?_
  refine OPS.nil ?_
  refine WP.seq ?_
  refine WP.cond rfl (fun hc8 => ?_) (fun hc8 => ?_)
  · have hlt : j < l.length := by simpa using hc8
    have hlt2 : j < (edgesL l).length := by omega
    obtain ⟨b, of, rfl, hcx⟩ := hEz w [_] H j hlt2
    have hx' := hok (edgesL l)[j] (List.getElem_mem hlt2)
    rw [dropE hlt2, leastV] at hs
    obtain ⟨x, hx⟩ : ∃ x, x = (edgesL l)[j] := ⟨_, rfl⟩
    rw [← hx] at hs hcx hx'
    refine WP.skip ?_
    refine WP.seq ?_
    refine WP.block ?_
    refine WP.seq ?_
    refine WP.region ?_
    refine OPS.val rfl rfl rfl ((by exact Ev.indexAddr (el_run rfl) (size_run rfl) rfl rfl rfl (by omega))) ?_
    refine OPS.val rfl rfl rfl ((by (change Ev _ _ _ _ (Op.load 113 (Operand.tmp 34)) _; exact Ev.loadN (edgeCells x) (agg_run rfl) (size_run rfl) rfl hcx))) ?_
    refine OPS.alloc rfl rfl rfl rfl (zero_run rfl) rfl H ?_
    clear H; intro g13 w H
    refine OPS.store 0 _ rfl rfl rfl (size_run rfl) rfl (cA rfl) rfl rfl H rfl (by simp) ?_
    clear H; intro w H; try simp only [List.set_cons_zero, List.set_cons_succ, putL, Nat.zero_add] at H
    refine OPS.nil ?_
    dsimp only [edgeCells] at H
    refine WP.region ?_
    refine OPS.val rfl rfl rfl (Ev.mvI rfl) ?_
    refine OPS.val rfl rfl rfl ((by exact Ev.loadO 0 H rfl (agg_run rfl) (size_run rfl) (by rfl) rfl)) ?_
    refine OPS.val rfl rfl rfl ((by exact Ev.loadO 1 H rfl (agg_run rfl) (size_run rfl) (by rfl) rfl)) ?_
    refine OPS.val rfl rfl rfl (Ev.mvI rfl) ?_
    refine OPS.call (d := some 40) rfl rfl rfl (EvC.func (fun_run rfl)) (geoNear x c r hx' kc (by omega) w) ?_
    rintro _ w ⟨rfl, hb⟩
    refine ⟨_, rfl, ?_⟩
    replace H := H.toBelow hb; clear hb
    refine OPS.val rfl rfl rfl (Ev.min rfl rfl) ?_
    refine OPS.val rfl rfl rfl (Ev.asI rfl) ?_
    refine OPS.nil ?_
    refine WP.region ?_
    refine OPS.val rfl rfl rfl (Ev.add rfl rfl (by unfold fits; omega)) ?_
    refine OPS.val rfl rfl rfl (Ev.mvI rfl) ?_
    refine OPS.nil ?_
    exact ⟨(by repeat (first | exact Agree.refl _ _ | exact Agree.mix _ _ _ | refine Agree.upd rfl ?_ | refine Agree.mix2 rfl ?_)), k - 1, by omega, j + 1, _, by omega, rfl, rfl, hs, H.drop (List.sublist_cons_self _ _)⟩
  refine WP.exit ?_
  refine XB.hit ?_
  refine WP.seq ?_
  refine WP.region ?_
  refine OPS.val rfl rfl rfl (Ev.mvI rfl) ?_
  refine OPS.val rfl rfl rfl (Ev.mvI rfl) ?_
  refine OPS.val rfl rfl rfl (Ev.asI rfl) ?_
  refine OPS.val rfl rfl rfl (Ev.asI rfl) ?_
  refine OPS.val rfl rfl rfl (Ev.asI rfl) ?_
  refine OPS.nil ?_
  refine WP.ret ⟨_, rfl, ?_⟩
  have hj : j = l.length := by simp at hc8; omega
  rw [hj, List.drop_of_length_le (by omega), leastV] at hs
  exact ⟨by rw [← hs, ← hiv]; rfl, H.below⟩
theorem geoTouches (A : Option Addr) (l : List Pt) (cap : Nat) (c : Pt) (r : Int) (w0 : World) (hz : RowsAt 2 ptCells w0 A l) :
    Calls Tryz.prog 126 #[.slice A l.length cap, .agg #[I c.x, I c.y], I r] w0 fun e w' => e = .returned (.tuple #[Bo (decide (discErr l c r = 0) && touchV l c r), I (discErr l c r)]) ∧ Below w0.heap.size w0 w' := by
  have H := SH.refl w0
  refine Calls.ofWP Tryz.func126 rfl Tryz.results126 Tryz.ntmps126 rfl ?_
  refine WP.seq ?_
  refine WP.region ?_
  refine OPS.box rfl rfl rfl rfl (cA rfl) H ?_
  clear H; intro g4 w H
  refine OPS.val rfl rfl rfl (Ev.asB rfl) ?_
  refine OPS.val rfl rfl rfl (Ev.asI rfl) ?_
  refine OPS.nil ?_
  refine WP.seq ?_
  refine WP.region ?_
  refine OPS.val rfl rfl rfl (Ev.mvS rfl) ?_
  refine OPS.val rfl rfl rfl ((by exact Ev.loadO 0 H rfl (agg_run rfl) (size_run rfl) (by rfl) rfl)) ?_
  refine OPS.val rfl rfl rfl (Ev.mvI rfl) ?_
  refine OPS.call (d := some 15) rfl rfl rfl (EvC.func (fun_run rfl)) (geoDisc A l cap c r w (hz.sh H)) ?_
  rintro _ w ⟨rfl, hb⟩
  refine ⟨_, rfl, ?_⟩
  replace H := H.toBelow hb; clear hb
  refine OPS.val rfl rfl rfl (Ev.mvT rfl) ?_
  refine OPS.val rfl rfl rfl (Ev.extract rfl rfl) ?_
  refine OPS.val rfl rfl rfl (Ev.extract rfl rfl) ?_
  refine OPS.val rfl rfl rfl (Ev.extract rfl rfl) ?_
  refine OPS.val rfl rfl rfl (Ev.asI rfl) ?_
  refine OPS.val rfl rfl rfl (Ev.asI rfl) ?_
  refine OPS.val rfl rfl rfl (Ev.asI rfl) ?_
  refine OPS.nil ?_
  refine WP.seq ?_
  refine WP.region ?_
  refine OPS.val rfl rfl rfl (Ev.mvI rfl) ?_
  refine OPS.val rfl rfl rfl (Ev.eql rfl rfl) ?_
  refine OPS.val rfl rfl rfl (Ev.mvB rfl) ?_
  refine OPS.gval rfl rfl rfl rfl rfl (fun hg => Ev.mvI (by rfl)) ?_
  refine OPS.gval rfl rfl rfl rfl rfl (fun hg => Ev.geq (by exact gvE hg rfl) (by rfl)) ?_
  refine OPS.gval rfl rfl rfl rfl rfl (fun hg => Ev.mvB (by exact gvE hg rfl)) ?_
  refine OPS.gvalN rfl rfl (GB.g rfl) rfl rfl (fun hg => Ev.mvI (by rfl)) ?_
  refine OPS.gvalN rfl rfl (GB.g rfl) rfl rfl (fun hg => Ev.leq (by exact gvE hg rfl) (by rfl)) ?_
  refine OPS.gval rfl rfl rfl rfl rfl (fun hg => (by exact Ev.pickOr2 (beqT hg) (gvE hg rfl) rfl rfl)) ?_
  refine OPS.val rfl rfl rfl ((by exact Ev.pickAnd rfl rfl rfl)) ?_
  refine OPS.val rfl rfl rfl (Ev.mvI rfl) ?_
  refine OPS.val rfl rfl rfl (Ev.asB rfl) ?_
  refine OPS.val rfl rfl rfl (Ev.asI rfl) ?_
  refine OPS.nil ?_
  refine WP.ret ⟨_, rfl, ?_⟩
  refine ⟨?_, H.below⟩
  by_cases h : discErr l c r = 0
  · have e1 : (if discErr l c r = 0 then whereV c (-1) (edgesL l) else 0) = whereV c (-1) (edgesL l) := if_pos h
    have e2 : (if discErr l c r = 0 then leastV c r 1 (edgesL l) else 0) = leastV c r 1 (edgesL l) := if_pos h
    unfold touchV
    rw [e1, e2]; rfl
  · have e0 : decide (discErr l c r = 0) = false := decide_eq_false h
    rw [e0]; rfl
theorem geoCovers (A : Option Addr) (l : List Pt) (cap : Nat) (c : Pt) (r : Int) (w0 : World) (hz : RowsAt 2 ptCells w0 A l) :
    Calls Tryz.prog 128 #[.slice A l.length cap, .agg #[I c.x, I c.y], I r] w0 fun e w' => e = .returned (.tuple #[Bo (decide (discErr l c r = 0) && coverV l c r), I (discErr l c r)]) ∧ Below w0.heap.size w0 w' := by
  have H := SH.refl w0
  refine Calls.ofWP Tryz.func128 rfl Tryz.results128 Tryz.ntmps128 rfl ?_
  refine WP.seq ?_
  refine WP.region ?_
  refine OPS.box rfl rfl rfl rfl (cA rfl) H ?_
  clear H; intro g4 w H
  refine OPS.val rfl rfl rfl (Ev.asB rfl) ?_
  refine OPS.val rfl rfl rfl (Ev.asI rfl) ?_
  refine OPS.nil ?_
  refine WP.seq ?_
  refine WP.region ?_
  refine OPS.val rfl rfl rfl (Ev.mvS rfl) ?_
  refine OPS.val rfl rfl rfl ((by exact Ev.loadO 0 H rfl (agg_run rfl) (size_run rfl) (by rfl) rfl)) ?_
  refine OPS.val rfl rfl rfl (Ev.mvI rfl) ?_
  refine OPS.call (d := some 15) rfl rfl rfl (EvC.func (fun_run rfl)) (geoDisc A l cap c r w (hz.sh H)) ?_
  rintro _ w ⟨rfl, hb⟩
  refine ⟨_, rfl, ?_⟩
  replace H := H.toBelow hb; clear hb
  refine OPS.val rfl rfl rfl (Ev.mvT rfl) ?_
  refine OPS.val rfl rfl rfl (Ev.extract rfl rfl) ?_
  refine OPS.val rfl rfl rfl (Ev.extract rfl rfl) ?_
  refine OPS.val rfl rfl rfl (Ev.extract rfl rfl) ?_
  refine OPS.val rfl rfl rfl (Ev.asI rfl) ?_
  refine OPS.val rfl rfl rfl (Ev.asI rfl) ?_
  refine OPS.val rfl rfl rfl (Ev.asI rfl) ?_
  refine OPS.nil ?_
  refine WP.seq ?_
  refine WP.region ?_
  refine OPS.val rfl rfl rfl (Ev.mvI rfl) ?_
  refine OPS.val rfl rfl rfl (Ev.eql rfl rfl) ?_
  refine OPS.val rfl rfl rfl (Ev.mvB rfl) ?_
  refine OPS.gval rfl rfl rfl rfl rfl (fun hg => Ev.mvI (by rfl)) ?_
  refine OPS.gval rfl rfl rfl rfl rfl (fun hg => Ev.geq (by exact gvE hg rfl) (by rfl)) ?_
  refine OPS.val rfl rfl rfl ((by exact Ev.pickAnd rfl rfl rfl)) ?_
  refine OPS.val rfl rfl rfl (Ev.mvB rfl) ?_
  refine OPS.gval rfl rfl rfl rfl rfl (fun hg => Ev.mvI (by rfl)) ?_
  refine OPS.gval rfl rfl rfl rfl rfl (fun hg => Ev.geq (by exact gvE hg rfl) (by rfl)) ?_
  refine OPS.val rfl rfl rfl ((by exact Ev.pickAnd rfl rfl rfl)) ?_
  refine OPS.val rfl rfl rfl (Ev.mvI rfl) ?_
  refine OPS.val rfl rfl rfl (Ev.asB rfl) ?_
  refine OPS.val rfl rfl rfl (Ev.asI rfl) ?_
  refine OPS.nil ?_
  refine WP.ret ⟨_, rfl, ?_⟩
  refine ⟨?_, H.below⟩
  by_cases h : discErr l c r = 0
  · have e1 : (if discErr l c r = 0 then whereV c (-1) (edgesL l) else 0) = whereV c (-1) (edgesL l) := if_pos h
    have e2 : (if discErr l c r = 0 then leastV c r 1 (edgesL l) else 0) = leastV c r 1 (edgesL l) := if_pos h
    unfold coverV
    rw [e1, e2, ← Bool.and_assoc]; rfl
  · have e0 : decide (discErr l c r = 0) = false := decide_eq_false h
    rw [e0]; rfl
end Go.Proofs.YtjgdklhbegplfaaGreat

/-
  Walks: the reference's points, segments and edges.
-/
set_option linter.all false
namespace Go.Proofs.YtjgdklhbegplfaaGreat
open Go Go.W Go.RowKit

def coordB (n : Int) : Bool := decide (-16384 ≤ n) && decide (n ≤ 16384)
theorem sgn_bd (n : Int) : -1 ≤ sgn n ∧ sgn n ≤ 1 := by unfold sgn; split <;> (try split) <;> omega
end Go.Proofs.YtjgdklhbegplfaaGreat

/-
  Walks: the reference's polygons.
-/
set_option linter.all false
namespace Go.Proofs.YtjgdklhbegplfaaGreat
open Go Go.W Go.RowKit

abbrev ptV (p : Pt) : Value := .agg #[I p.x, I p.y]
theorem edgeAt_ok {l : List Pt} (hp : ∀ p ∈ l, PtR p) {i : Nat} (hi : i < l.length) : EdR (edgeAt l i) := edgesL_ok hp _ (List.mem_map.2 ⟨i, List.mem_range.2 hi, rfl⟩)
def rowR (l : List Pt) (i : Nat) : Bool := !decide ((edgeAt l i).a = (edgeAt l i).b) && (List.range l.length).all fun k => !(decide (i < k)) || apartB l.length i k (edgeAt l i) (edgeAt l k)
theorem refSimple_no {l : List Pt} {i : Nat} (hi : i < l.length) (h : rowR l i = false) : refSimple l = false := by
  unfold refSimple
  rw [List.all_eq_false]
  exact ⟨i, List.mem_range.2 hi, by unfold rowR at h; rw [h]; simp⟩
end Go.Proofs.YtjgdklhbegplfaaGreat

/-
  Walks: the reference's discs.
-/
set_option linter.all false
namespace Go.Proofs.YtjgdklhbegplfaaGreat
open Go Go.W Go.RowKit

theorem discErr_ok {l : List Pt} {c : Pt} {r : Int} (h : discErr l c r = 0) : polyErr l = 0 ∧ PtR c ∧ 0 ≤ r ∧ r ≤ 16384 := by
  unfold discErr at h
  split at h
  · rename_i h1; exact absurd h h1
  · rename_i h1
    split at h
    · cases h
    · rename_i h2
      obtain ⟨k1, k2⟩ := inErr_ok (Classical.not_not.1 h1)
      exact ⟨k1, k2, by omega, by omega⟩
end Go.Proofs.YtjgdklhbegplfaaGreat

/-
  Walks: kinds, windows, when a fence is active.
-/
set_option linter.all false
namespace Go.W
theorem EvC.clos0 {P : Program} {e : Env} {f : FuncId} {g : Operand} {caps : List Value} {args : List Operand} {tys : Array TypeId} (hg : ev e g = .func (.func f) #[] caps.toArray) (hc : ∀ (args : Array Value) (w : World), (callFunc f args).run P w = .ok (.enter f args) w) :
    EvC P e (.call { callee := .value g, args := args.toArray, argTypes := tys }) f (args.map (ev e) ++ caps) := EvC.clos (first := []) hg hc
end Go.W
namespace Go.Proofs.YtjgdklhbegplfaaGreat
open Go Go.W Go.RowKit

def Reads (L : List Blk) (P : World → Prop) : Prop := ∀ (w0 : World) (S : List Nat) (w : World), SH w0 S w L → P w
theorem Reads.at {L L' : List Blk} {P : World → Prop} (h : Reads L P) {w0 w : World} {S : List Nat} (H : SH w0 S w L') (hs : L.Sublist L') : P w := h _ _ _ (H.drop hs)
structure Fen where
  kind : Int
  P : SlA Pt
  wf : Int
  wt : Int
  hf : Int
  ht : Int
instance : Inhabited Fen := ⟨⟨0, ⟨none, 0, []⟩, 0, 0, 0, 0⟩⟩
def fenCells (f : Fen) : List Value := [I f.kind, .slice f.P.A f.P.l.length f.P.cap, I f.wf, I f.wt, I f.hf, I f.ht]
theorem fenCells_len (f : Fen) : (fenCells f).length = 6 := rfl
structure FenAt (w : World) (f : Fen) : Prop where
  pts : RowsAt 2 ptCells w f.P.A f.P.l
  len : f.P.l.length ≤ maxLen
theorem FenAt.below {w w' : World} {f : Fen} (h : FenAt w f) (hb : Below w.heap.size w w') : FenAt w' f := ⟨h.pts.below hb, h.len⟩
structure FensAt (w : World) (A : Option Addr) (fs : List Fen) : Prop where
  rows : RowsAt 6 fenCells w A fs
  each : ∀ f ∈ fs, FenAt w f
  len : fs.length ≤ maxLen
theorem FensAt.below {w w' : World} {A : Option Addr} {fs : List Fen} (h : FensAt w A fs) (hb : Below w.heap.size w w') : FensAt w' A fs := ⟨h.rows.below hb, fun f hf => (h.each f hf).below hb, h.len⟩
theorem FensAt.sh {w0 w : World} {L : List Blk} {A : Option Addr} {fs : List Fen} (h : FensAt w0 A fs) (H : SH w0 [] w L) : FensAt w A fs := h.below H.below
def kindB (n : Int) : Bool := decide (1 ≤ n) && decide (n ≤ 3)
def winB (f t : Int) : Bool := (decide (0 ≤ f) && decide (f ≤ t)) && decide (t ≤ 4294944000)
def inW (f t n : Int) : Bool := decide (f ≤ n) && decide (n < t)
def activeB (f : Fen) (t : Int) : Bool := ((decide (0 ≤ t) && decide (t ≤ 4294943999)) && inW f.wf f.wt t) && inW f.hf f.ht (t % 86400)
theorem fenKind (n : Int) (w0 : World) : Calls Tryz.prog 67 #[I n] w0 fun e w' => e = .returned (.bool (kindB n)) ∧ Below w0.heap.size w0 w' := by
  have H := SH.refl w0
  refine Calls.ofWP Tryz.func67 rfl Tryz.results67 Tryz.ntmps67 rfl ?_
  refine WP.seq ?_
  refine WP.region ?_
  refine OPS.val rfl rfl rfl (Ev.asB rfl) ?_
  refine OPS.nil ?_
  refine WP.seq ?_
  refine WP.region ?_
  refine OPS.val rfl rfl rfl (Ev.mvI rfl) ?_
  refine OPS.val rfl rfl rfl (Ev.geq rfl rfl) ?_
  refine OPS.val rfl rfl rfl (Ev.mvB rfl) ?_
  refine OPS.gval rfl rfl rfl rfl rfl (fun hg => Ev.mvI (by rfl)) ?_
  refine OPS.gval rfl rfl rfl rfl rfl (fun hg => Ev.leq (by exact gvE hg rfl) (by rfl)) ?_
  refine OPS.val rfl rfl rfl ((by exact Ev.pickAnd rfl rfl rfl)) ?_
  refine OPS.val rfl rfl rfl (Ev.asB rfl) ?_
  refine OPS.nil ?_
  refine WP.ret ⟨_, rfl, ?_⟩
  exact ⟨rfl, H.below⟩
theorem clockValid (f t : Int) (w0 : World) : Calls Tryz.prog 68 #[.agg #[I f, I t]] w0 fun e w' => e = .returned (.bool (winB f t)) ∧ Below w0.heap.size w0 w' := by
  have H := SH.refl w0
  refine Calls.ofWP Tryz.func68 rfl Tryz.results68 Tryz.ntmps68 rfl ?_
  refine WP.seq ?_
  refine WP.region ?_
  refine OPS.box rfl rfl rfl rfl (cA rfl) H ?_
  clear H; intro g1 w H
  refine OPS.val rfl rfl rfl (Ev.asB rfl) ?_
  refine OPS.nil ?_
  refine WP.seq ?_
  refine WP.region ?_
  refine OPS.val rfl rfl rfl (Ev.fieldAddr (fld_run rfl) rfl) ?_
  refine OPS.val rfl rfl rfl (Ev.load1 (agg_run rfl) rfl (by exact H.ldL 0 rfl _ rfl)) ?_
  refine OPS.val rfl rfl rfl (Ev.leq rfl rfl) ?_
  refine OPS.val rfl rfl rfl (Ev.mvB rfl) ?_
  refine OPS.gval rfl rfl rfl rfl rfl (fun hg => Ev.fieldAddr (fld_run rfl) (by rfl)) ?_
  refine OPS.gval rfl rfl rfl rfl rfl (fun hg => Ev.load1 (agg_run rfl) (by exact gvE hg rfl) (by exact H.ldL 0 rfl _ rfl)) ?_
  refine OPS.gval rfl rfl rfl rfl rfl (fun hg => Ev.fieldAddr (fld_run rfl) (by rfl)) ?_
  refine OPS.gval rfl rfl rfl rfl rfl (fun hg => Ev.load1 (agg_run rfl) (by exact gvE hg rfl) (by exact H.ldL 0 rfl _ rfl)) ?_
  refine OPS.gval rfl rfl rfl rfl rfl (fun hg => Ev.leq (by exact gvE hg rfl) (by exact gvE hg rfl)) ?_
  refine OPS.val rfl rfl rfl ((by exact Ev.pickAnd rfl rfl rfl)) ?_
  refine OPS.val rfl rfl rfl (Ev.mvB rfl) ?_
  refine OPS.gval rfl rfl rfl rfl rfl (fun hg => Ev.fieldAddr (fld_run rfl) (by rfl)) ?_
  refine OPS.gval rfl rfl rfl rfl rfl (fun hg => Ev.load1 (agg_run rfl) (by exact gvE hg rfl) (by exact H.ldL 0 rfl _ rfl)) ?_
  refine OPS.gval rfl rfl rfl rfl rfl (fun hg => Ev.leq (by exact gvE hg rfl) (by rfl)) ?_
  refine OPS.val rfl rfl rfl ((by exact Ev.pickAnd rfl rfl rfl)) ?_
  refine OPS.val rfl rfl rfl (Ev.asB rfl) ?_
  refine OPS.nil ?_
  refine WP.ret ⟨_, rfl, ?_⟩
  exact ⟨rfl, H.below⟩
theorem fenWithin (f t n : Int) (w0 : World) : Calls Tryz.prog 123 #[.agg #[I f, I t], I n] w0 fun e w' => e = .returned (.bool (inW f t n)) ∧ Below w0.heap.size w0 w' := by
  have H := SH.refl w0
  refine Calls.ofWP Tryz.func123 rfl Tryz.results123 Tryz.ntmps123 rfl ?_
  refine WP.seq ?_
  refine WP.region ?_
  refine OPS.box rfl rfl rfl rfl (cA rfl) H ?_
  clear H; intro g2 w H
  refine OPS.val rfl rfl rfl (Ev.asB rfl) ?_
  refine OPS.nil ?_
  refine WP.seq ?_
  refine WP.region ?_
  refine OPS.val rfl rfl rfl (Ev.fieldAddr (fld_run rfl) rfl) ?_
  refine OPS.val rfl rfl rfl (Ev.load1 (agg_run rfl) rfl (by exact H.ldL 0 rfl _ rfl)) ?_
  refine OPS.val rfl rfl rfl (Ev.mvI rfl) ?_
  refine OPS.val rfl rfl rfl (Ev.leq rfl rfl) ?_
  refine OPS.val rfl rfl rfl (Ev.mvB rfl) ?_
  refine OPS.gval rfl rfl rfl rfl rfl (fun hg => Ev.mvI (by rfl)) ?_
  refine OPS.gval rfl rfl rfl rfl rfl (fun hg => Ev.fieldAddr (fld_run rfl) (by rfl)) ?_
  refine OPS.gval rfl rfl rfl rfl rfl (fun hg => Ev.load1 (agg_run rfl) (by exact gvE hg rfl) (by exact H.ldL 0 rfl _ rfl)) ?_
  refine OPS.gval rfl rfl rfl rfl rfl (fun hg => Ev.lss (by exact gvE hg rfl) (by exact gvE hg rfl)) ?_
  refine OPS.val rfl rfl rfl ((by exact Ev.pickAnd rfl rfl rfl)) ?_
  refine OPS.val rfl rfl rfl (Ev.asB rfl) ?_
  refine OPS.nil ?_
  refine WP.ret ⟨_, rfl, ?_⟩
  exact ⟨rfl, H.below⟩
theorem fenActive (f : Fen) (t : Int) (w0 : World) : Calls Tryz.prog 74 #[.agg (fenCells f).toArray, I t] w0 fun e w' => e = .returned (.bool (activeB f t)) ∧ Below w0.heap.size w0 w' := by
  have H := SH.refl w0
  refine Calls.ofWP Tryz.func74 rfl Tryz.results74 Tryz.ntmps74 rfl ?_
  refine WP.seq ?_
  refine WP.region ?_
  refine OPS.box rfl rfl rfl rfl (cA rfl) H ?_
  clear H; intro g2 w H
  refine OPS.val rfl rfl rfl (Ev.asB rfl) ?_
  refine OPS.nil ?_
  unfold fenCells at H
  refine WP.seq ?_
  refine WP.region ?_
  refine OPS.val rfl rfl rfl (Ev.mvI rfl) ?_
  refine OPS.val rfl rfl rfl (Ev.geq rfl rfl) ?_
  refine OPS.val rfl rfl rfl (Ev.mvB rfl) ?_
  refine OPS.gval rfl rfl rfl rfl rfl (fun hg => Ev.mvI (by rfl)) ?_
  refine OPS.gval rfl rfl rfl rfl rfl (fun hg => Ev.leq (by exact gvE hg rfl) (by rfl)) ?_
  refine OPS.val rfl rfl rfl ((by exact Ev.pickAnd rfl rfl rfl)) ?_
  refine OPS.val rfl rfl rfl (Ev.mvB rfl) ?_
  refine OPS.gval rfl rfl rfl rfl rfl (fun hg => Ev.fieldAddr (fld_run rfl) (by rfl)) ?_
  refine OPS.gval rfl rfl rfl rfl rfl (fun hg => (by exact Ev.loadN [_, _] (agg_run rfl) (size_run rfl) (by exact gvE hg rfl) ⟨H.ldL 0 rfl _ rfl, H.ldL 0 rfl _ rfl, trivial⟩)) ?_
  refine OPS.gval rfl rfl rfl rfl rfl (fun hg => Ev.mvI (by rfl)) ?_
  refine OPS.gcall0 (f := 123) (fenWithin f.wf f.wt t w) (fun _ _ h => h) rfl rfl rfl rfl rfl (fun hg => EvC.conv (EvC.func (fun_run rfl)) (l2 (by exact gvE hg rfl) (by exact gvE hg rfl))) ?_
  intro w hbc; replace H := H.toBelow hbc
  refine OPS.val rfl rfl rfl ((by exact Ev.pickAnd rfl rfl rfl)) ?_
  refine OPS.val rfl rfl rfl (Ev.mvB rfl) ?_
  refine OPS.gval rfl rfl rfl rfl rfl (fun hg => Ev.fieldAddr (fld_run rfl) (by rfl)) ?_
  refine OPS.gval rfl rfl rfl rfl rfl (fun hg => (by exact Ev.loadN [_, _] (agg_run rfl) (size_run rfl) (by exact gvE hg rfl) ⟨H.ldL 0 rfl _ rfl, H.ldL 0 rfl _ rfl, trivial⟩)) ?_
  refine OPS.gval rfl rfl rfl rfl rfl (fun hg => Ev.mvI (by rfl)) ?_
  refine OPS.gval rfl rfl rfl rfl rfl (fun hg => Ev.rem (gvE hg rfl) rfl (by simp at hg; omega) (by omega)) ?_
  refine OPS.gcall0 (f := 123) (fenWithin f.hf f.ht (t % 86400) w) (fun _ _ h => h) rfl rfl rfl rfl rfl (fun hg => EvC.conv (EvC.func (fun_run rfl)) (l2 (by exact gvE hg rfl) (by exact gvE hg rfl))) ?_
  intro w hbc; replace H := H.toBelow hbc
  refine OPS.val rfl rfl rfl ((by exact Ev.pickAnd rfl rfl rfl)) ?_
  refine OPS.val rfl rfl rfl (Ev.asB rfl) ?_
  refine OPS.nil ?_
  refine WP.ret ⟨_, rfl, ?_⟩
  exact ⟨rfl, H.below⟩
def fErr (f : Fen) : Int := if kindB f.kind = false then 14 else if polyErr f.P.l ≠ 0 then polyErr f.P.l else if (((!winB f.wf f.wt || decide (f.hf < 0)) || decide (f.ht < f.hf)) || decide (86400 < f.ht)) = true then 1 else 0
def fsErr : List Fen → Int
  | [] => 0
  | f :: l => if fErr f ≠ 0 then fErr f else fsErr l
def chkErr (fs : List Fen) : Int := if 32 < fs.length then 8 else fsErr fs
theorem fsErr_drop {fs : List Fen} {i : Nat} (h : i < fs.length) : fsErr (fs.drop i) = if fErr fs[i] ≠ 0 then fErr fs[i] else fsErr (fs.drop (i + 1)) := by rw [List.drop_eq_getElem_cons h, fsErr]
theorem fErr_or {f : Fen} : kindB f.kind = false → fErr f = 14 := fun h => by rw [fErr, if_pos h]
set_option maxHeartbeats 1000000 in
theorem fenCheck (A : Option Addr) (fs : List Fen) (cap : Nat) (w0 : World) (hz : FensAt w0 A fs) :
    Calls Tryz.prog 34 #[.slice A fs.length cap] w0 fun e w' => e = .returned (I (chkErr fs)) ∧ Below w0.heap.size w0 w' := by
  have H := SH.refl w0
  refine Calls.ofWP Tryz.func34 rfl Tryz.results34 Tryz.ntmps34 rfl ?_
  refine WP.seq ?_
  refine WP.region ?_
  refine OPS.val rfl rfl rfl (Ev.asI rfl) ?_
  refine OPS.nil ?_
  refine WP.seq ?_
  refine WP.seq ?_
  refine WP.region ?_
  refine OPS.val rfl rfl rfl (Ev.mvS rfl) ?_
  refine OPS.val rfl rfl rfl (Ev.len (el_run rfl) rfl) ?_
  refine OPS.val rfl rfl rfl (Ev.gtr rfl rfl) ?_
  refine OPS.nil ?_
  refine WP.cond rfl (fun hc1 => ?_) (fun hc1 => ?_)
  · refine WP.seq ?_
    refine WP.region ?_
    refine OPS.val rfl rfl rfl (Ev.asI rfl) ?_
    refine OPS.nil ?_
    refine WP.ret ⟨_, rfl, ?_⟩
    have h : 32 < fs.length := by simp at hc1; omega
    exact ⟨ret_int (by rw [chkErr, if_pos h]), H.below⟩
  have hn : ¬ 32 < fs.length := by simp at hc1; omega
  have hce : chkErr fs = fsErr fs := by rw [chkErr, if_neg hn]
  rw [hce]
  refine WP.skip ?_
  refine WP.seq ?_
  refine WP.seq ?_
  refine WP.region ?_
  refine OPS.val rfl rfl rfl (Ev.mvS rfl) ?_
  refine OPS.val rfl rfl rfl (Ev.len (el_run rfl) rfl) ?_
  refine OPS.val rfl rfl rfl (Ev.mvI rfl) ?_
  refine OPS.nil ?_
  refine WP.block ?_
  refine WP.loop [2, 4, 5, 11, 12, 13, 14, 15, 16, 17, 18, 19, 20, 21, 22, 23, 24, 25, 26, 27, 28, 29, 30, 31, 32, 33, 34, 35, 36, 37, 38, 39, 40, 41, 42, 43, 44, 45, 46, 47, 48, 49, 50] (fun k e w' => ∃ (i : Nat), i + k = fs.length ∧ e 11 = I i ∧ fsErr (fs.drop i) = fsErr fs ∧ SH w0 [] w' []) (fs.length) (⟨0, by omega, rfl, rfl, H⟩) ?_
  clear H
  rintro k u w ⟨i, hk, h11, hs, H⟩
  refine WP.know (t := 11) h11 ?_
  refine WP.seq ?_
  refine WP.region ?_
  refine OPS.val rfl rfl rfl (Ev.lss rfl rfl) ?_
  refine OPS.nil ?_
  refine WP.seq ?_
  refine WP.cond rfl (fun hc4 => ?_) (fun hc4 => ?_)
  · have hlt : i < fs.length := by simpa using hc4
    obtain ⟨b, o, rfl, hcx⟩ := hz.rows i hlt
    have hfa := hz.each fs[i] (List.getElem_mem hlt)
    have hc' := cellsAt_sh H hcx
    rw [fsErr_drop hlt] at hs
    obtain ⟨x, hx⟩ : ∃ x, x = fs[i] := ⟨_, rfl⟩
    rw [← hx] at hc' hfa hs
    refine WP.skip ?_
    refine WP.seq ?_
    refine WP.block ?_
    refine WP.seq ?_
    refine WP.region ?_
    refine OPS.val rfl rfl rfl ((by exact Ev.indexAddr (el_run rfl) (size_run rfl) rfl rfl rfl (by omega))) ?_
    refine OPS.val rfl rfl rfl ((by (change Ev _ _ _ _ (Op.load 42 (Operand.tmp 13)) _; exact Ev.loadN (fenCells x) (agg_run rfl) (size_run rfl) rfl hc'))) ?_
    refine OPS.alloc rfl rfl rfl rfl (zero_run rfl) rfl H ?_
    clear H; intro g4 w H
    refine OPS.store 0 _ rfl rfl rfl (size_run rfl) rfl (cA rfl) rfl rfl H rfl (by simp) ?_
    clear H; intro w H; try simp only [List.set_cons_zero, List.set_cons_succ, putL, Nat.zero_add] at H
    refine OPS.nil ?_
    refine WP.seq ?_
    refine WP.seq ?_
    dsimp only [fenCells] at H
    refine WP.region ?_
    refine OPS.val rfl rfl rfl (Ev.fieldAddr (fld_run rfl) rfl) ?_
    refine OPS.val rfl rfl rfl (Ev.load1 (agg_run rfl) rfl (by exact H.ldL 0 rfl _ rfl)) ?_
    refine OPS.call (d := some 17) rfl rfl rfl (EvC.func (fun_run rfl)) (fenKind x.kind w) ?_
    rintro _ w ⟨rfl, hb⟩
    refine ⟨_, rfl, ?_⟩
    replace H := H.toBelow hb; clear hb
    refine OPS.val rfl rfl rfl (Ev.not rfl) ?_
    refine OPS.nil ?_
    refine WP.cond rfl (fun hc6 => ?_) (fun hc6 => ?_)
    · refine WP.seq ?_
      refine WP.region ?_
      refine OPS.val rfl rfl rfl (Ev.asI rfl) ?_
      refine OPS.nil ?_
      refine WP.ret ⟨_, rfl, ?_⟩
      have h1 : kindB x.kind = false := by simpa using hc6
      have he : fErr x = 14 := fErr_or h1
      rw [he, if_pos (by decide)] at hs
      exact ⟨ret_int hs, H.below⟩
    have h1 : ¬ kindB x.kind = false := by simpa using hc6
    refine WP.skip ?_
    refine WP.seq ?_
    refine WP.seq ?_
    refine WP.region ?_
    refine OPS.val rfl rfl rfl (Ev.fieldAddr (fld_run rfl) rfl) ?_
    refine OPS.val rfl rfl rfl (Ev.load1 (agg_run rfl) rfl (by exact H.ldL 0 rfl _ rfl)) ?_
    refine OPS.call (d := some 21) rfl rfl rfl (EvC.func (fun_run rfl)) (geoCheck x.P.A x.P.l x.P.cap w (hfa.pts.sh H)) ?_
    rintro _ w ⟨rfl, hb⟩
    refine ⟨_, rfl, ?_⟩
    replace H := H.toBelow hb; clear hb
    refine OPS.val rfl rfl rfl (Ev.asI rfl) ?_
    refine OPS.nil ?_
    refine WP.seq ?_
    refine WP.region ?_
    refine OPS.val rfl rfl rfl (Ev.mvI rfl) ?_
    refine OPS.val rfl rfl rfl (Ev.neq rfl rfl) ?_
    refine OPS.nil ?_
    refine WP.cond rfl (fun hc9 => ?_) (fun hc9 => ?_)
    · refine WP.seq ?_
      refine WP.region ?_
      refine OPS.val rfl rfl rfl (Ev.mvI rfl) ?_
      refine OPS.val rfl rfl rfl (Ev.asI rfl) ?_
      refine OPS.nil ?_
      refine WP.ret ⟨_, rfl, ?_⟩
      have h2 : polyErr x.P.l ≠ 0 := by simpa using hc9
      have he : fErr x = polyErr x.P.l := by rw [fErr, if_neg h1, if_pos h2]
      rw [he, if_pos h2] at hs
      exact ⟨ret_int hs, H.below⟩
    have h2 : ¬ polyErr x.P.l ≠ 0 := by simpa using hc9
    refine WP.skip ?_
    refine WP.seq ?_
    refine WP.region ?_
    refine OPS.val rfl rfl rfl (Ev.fieldAddr (fld_run rfl) rfl) ?_
    refine OPS.val rfl rfl rfl ((by exact Ev.loadN [_, _] (agg_run rfl) (size_run rfl) rfl ⟨H.ldL 0 rfl _ rfl, H.ldL 0 rfl _ rfl, trivial⟩)) ?_
    refine OPS.call (d := some 27) rfl rfl rfl (EvC.func (fun_run rfl)) (clockValid x.wf x.wt w) ?_
    rintro _ w ⟨rfl, hb⟩
    refine ⟨_, rfl, ?_⟩
    replace H := H.toBelow hb; clear hb
    refine OPS.val rfl rfl rfl (Ev.not rfl) ?_
    refine OPS.val rfl rfl rfl (Ev.mvB rfl) ?_
    refine OPS.gval rfl rfl rfl rfl rfl (fun hg => Ev.fieldAddr (fld_run rfl) (by rfl)) ?_
    refine OPS.gval rfl rfl rfl rfl rfl (fun hg => Ev.fieldAddr (fld_run rfl) (by exact gvE hg rfl)) ?_
    refine OPS.gval rfl rfl rfl rfl rfl (fun hg => Ev.load1 (agg_run rfl) (by exact gvE hg rfl) (by exact H.ldL 0 rfl _ rfl)) ?_
    refine OPS.gval rfl rfl rfl rfl rfl (fun hg => Ev.lss (by exact gvE hg rfl) (by rfl)) ?_
    refine OPS.val rfl rfl rfl ((by exact Ev.pickOr rfl rfl rfl)) ?_
    refine OPS.val rfl rfl rfl (Ev.mvB rfl) ?_
    refine OPS.gval rfl rfl rfl rfl rfl (fun hg => Ev.fieldAddr (fld_run rfl) (by rfl)) ?_
    refine OPS.gval rfl rfl rfl rfl rfl (fun hg => Ev.fieldAddr (fld_run rfl) (by exact gvE hg rfl)) ?_
    refine OPS.gval rfl rfl rfl rfl rfl (fun hg => Ev.load1 (agg_run rfl) (by exact gvE hg rfl) (by exact H.ldL 0 rfl _ rfl)) ?_
    refine OPS.gval rfl rfl rfl rfl rfl (fun hg => Ev.fieldAddr (fld_run rfl) (by rfl)) ?_
    refine OPS.gval rfl rfl rfl rfl rfl (fun hg => Ev.fieldAddr (fld_run rfl) (by exact gvE hg rfl)) ?_
    refine OPS.gval rfl rfl rfl rfl rfl (fun hg => Ev.load1 (agg_run rfl) (by exact gvE hg rfl) (by exact H.ldL 0 rfl _ rfl)) ?_
    refine OPS.gval rfl rfl rfl rfl rfl (fun hg => Ev.gtr (by exact gvE hg rfl) (by exact gvE hg rfl)) ?_
    refine OPS.val rfl rfl rfl ((by exact Ev.pickOr rfl rfl rfl)) ?_
    refine OPS.val rfl rfl rfl (Ev.mvB rfl) ?_
    refine OPS.gval rfl rfl rfl rfl rfl (fun hg => Ev.fieldAddr (fld_run rfl) (by rfl)) ?_
    refine OPS.gval rfl rfl rfl rfl rfl (fun hg => Ev.fieldAddr (fld_run rfl) (by exact gvE hg rfl)) ?_
    refine OPS.gval rfl rfl rfl rfl rfl (fun hg => Ev.load1 (agg_run rfl) (by exact gvE hg rfl) (by exact H.ldL 0 rfl _ rfl)) ?_
    refine OPS.gval rfl rfl rfl rfl rfl (fun hg => Ev.gtr (by exact gvE hg rfl) (by rfl)) ?_
    refine OPS.val rfl rfl rfl ((by exact Ev.pickOr rfl rfl rfl)) ?_
    refine OPS.nil ?_
    refine WP.cond rfl (fun hc11 => ?_) (fun hc11 => ?_)
    · refine WP.seq ?_
      refine WP.region ?_
      refine OPS.val rfl rfl rfl (Ev.asI rfl) ?_
      refine OPS.nil ?_
      refine WP.ret ⟨_, rfl, ?_⟩
      have he : fErr x = 1 := by rw [fErr, if_neg h1, if_neg h2, if_pos hc11]
      rw [he, if_pos (by decide)] at hs
      exact ⟨ret_int hs, H.below⟩
    have he : fErr x = 0 := by rw [fErr, if_neg h1, if_neg h2, if_neg (by rw [hc11]; simp)]
    rw [he, if_neg (by decide)] at hs
    refine WP.skip ?_
    refine WP.region ?_
    refine OPS.val rfl rfl rfl (Ev.add rfl rfl (by unfold fits; omega)) ?_
    refine OPS.val rfl rfl rfl (Ev.mvI rfl) ?_
    refine OPS.nil ?_
    exact ⟨(by repeat (first | exact Agree.refl _ _ | exact Agree.mix _ _ _ | refine Agree.upd rfl ?_ | refine Agree.mix2 rfl ?_)), k - 1, by omega, i + 1, by omega, rfl, hs, H.drop (List.nil_sublist _)⟩
  refine WP.exit ?_
  refine XB.hit ?_
  refine WP.seq ?_
  refine WP.region ?_
  refine OPS.val rfl rfl rfl (Ev.asI rfl) ?_
  refine OPS.nil ?_
  refine WP.ret ⟨_, rfl, ?_⟩
  have hi : i = fs.length := by simp at hc4; omega
  rw [hi, List.drop_length] at hs
  exact ⟨ret_int hs, H.below⟩
end Go.Proofs.YtjgdklhbegplfaaGreat
