/-
  Walks: named, Check, few.
-/
import Derived.Test.YtchjbjplddhknaaW2
import Derived.Test.YtchjbjplddhknaaDFacts
import Derived.Test.YtchjbjplddhknaaHeld
set_option linter.all false
namespace Go.Proofs.Ytchjbjplddhknaa
open Go Go.W Go.RowKit

def nmB (f : Flt) (x : Evt) : Bool :=
  (if x.k = 3 then wIn x.r 0 (f.rd - 1) else decide (x.r = 0)) && (if x.k = 3 ∨ x.k = 4 then wIn x.i 1 1000000 else decide (x.i = 0))
theorem named (f : Flt) (x : Evt) (A : Option Addr) (ca : Nat) (B : Option Addr) (cb : Nat) (w0 : World) (hr : wIn f.rd 1 128 = true) :
    Calls Try.prog 46 #[.agg (flC f A ca B cb).toArray, .agg (evC x).toArray] w0 fun e w' => e = .returned (.bool (nmB f x)) ∧ Below w0.heap.size w0 w' := by
  have H := SH.refl w0
  have hr1 : 1 ≤ f.rd ∧ f.rd ≤ 128 := by simpa [wIn] using hr
  unfold flC evC
  refine Calls.ofWP Try.func46 rfl Try.results46 Try.ntmps46 rfl ?_
  refine WP.seq ?_
  refine WP.region ?_
  refine OPS.box rfl rfl rfl rfl (cA rfl) H ?_
  clear H; intro g2 w H
  refine OPS.box rfl rfl rfl rfl (cA rfl) H ?_
  clear H; intro g3 w H
  refine OPS.val rfl rfl rfl (Ev.asB rfl) ?_
  refine OPS.nil ?_
  refine WP.seq ?_
  refine WP.rstill mixed (by kernel_rfl) H ?_
  clear H; intro w hbw1 H
  refine OPS.val rfl rfl rfl (Ev.fieldAddr (fld_run rfl) rfl) ?_
  refine OPS.val rfl rfl rfl (Ev.load1 (agg_run rfl) rfl (by first | exact H.ldL 0 rfl _ rfl | exact H.ldL 1 rfl _ rfl | exact H.ldL 2 rfl _ rfl | exact H.ldL 3 rfl _ rfl | exact H.ldL 4 rfl _ rfl | exact H.ldL 5 rfl _ rfl | exact H.ldL 6 rfl _ rfl | exact H.ldL 7 rfl _ rfl | exact H.ld0 (by assumption) | assumption | exact H.ldS (by assumption) (by assumption))) ?_
  refine OPS.val rfl rfl rfl (Ev.eql rfl rfl) ?_
  refine OPS.val rfl rfl rfl (Ev.fieldAddr (fld_run rfl) rfl) ?_
  refine OPS.val rfl rfl rfl (Ev.load1 (agg_run rfl) rfl (by first | exact H.ldL 0 rfl _ rfl | exact H.ldL 1 rfl _ rfl | exact H.ldL 2 rfl _ rfl | exact H.ldL 3 rfl _ rfl | exact H.ldL 4 rfl _ rfl | exact H.ldL 5 rfl _ rfl | exact H.ldL 6 rfl _ rfl | exact H.ldL 7 rfl _ rfl | exact H.ld0 (by assumption) | assumption | exact H.ldS (by assumption) (by assumption))) ?_
  refine OPS.val rfl rfl rfl (Ev.eql rfl rfl) ?_
  refine OPS.val rfl rfl rfl (Ev.asB rfl) ?_
  refine OPS.val rfl rfl rfl (Ev.asB rfl) ?_
  refine OPS.nil_s ?_
  refine WP.seq ?_
  refine WP.seq ?_
  refine WP.region ?_
  refine OPS.val rfl rfl rfl (Ev.fieldAddr (fld_run rfl) rfl) ?_
  refine OPS.val rfl rfl rfl (Ev.load1 (agg_run rfl) rfl (by first | exact H.ldL 0 rfl _ rfl | exact H.ldL 1 rfl _ rfl | exact H.ldL 2 rfl _ rfl | exact H.ldL 3 rfl _ rfl | exact H.ldL 4 rfl _ rfl | exact H.ldL 5 rfl _ rfl | exact H.ldL 6 rfl _ rfl | exact H.ldL 7 rfl _ rfl | exact H.ld0 (by assumption) | assumption | exact H.ldS (by assumption) (by assumption))) ?_
  refine OPS.val rfl rfl rfl (Ev.eql rfl rfl) ?_
  refine OPS.nil ?_
  refine WP.cond rfl (fun hc2 => ?_) (fun hc2 => ?_)
  · refine WP.region ?_
    refine OPS.val rfl rfl rfl (Ev.fieldAddr (fld_run rfl) rfl) ?_
    refine OPS.val rfl rfl rfl (Ev.load1 (agg_run rfl) rfl (by first | exact H.ldL 0 rfl _ rfl | exact H.ldL 1 rfl _ rfl | exact H.ldL 2 rfl _ rfl | exact H.ldL 3 rfl _ rfl | exact H.ldL 4 rfl _ rfl | exact H.ldL 5 rfl _ rfl | exact H.ldL 6 rfl _ rfl | exact H.ldL 7 rfl _ rfl | exact H.ld0 (by assumption) | assumption | exact H.ldS (by assumption) (by assumption))) ?_
    refine OPS.val rfl rfl rfl (Ev.fieldAddr (fld_run rfl) rfl) ?_
    refine OPS.val rfl rfl rfl (Ev.load1 (agg_run rfl) rfl (by first | exact H.ldL 0 rfl _ rfl | exact H.ldL 1 rfl _ rfl | exact H.ldL 2 rfl _ rfl | exact H.ldL 3 rfl _ rfl | exact H.ldL 4 rfl _ rfl | exact H.ldL 5 rfl _ rfl | exact H.ldL 6 rfl _ rfl | exact H.ldL 7 rfl _ rfl | exact H.ld0 (by assumption) | assumption | exact H.ldS (by assumption) (by assumption))) ?_
    refine OPS.val rfl rfl rfl (Ev.sub rfl rfl (by unfold fits; omega)) ?_
    refine OPS.call (d := some 21) rfl rfl rfl (EvC.func (fun_run rfl)) (within x.r 0 (f.rd - 1) _) ?_
    rintro _ w ⟨rfl, hb⟩
    refine ⟨_, rfl, ?_⟩
    replace H := H.toBelow hb; clear hb
    refine OPS.val rfl rfl rfl (Ev.asB rfl) ?_
    refine OPS.nil ?_
    refine WP.seq ?_
    refine WP.seq ?_
    refine WP.region ?_
    refine OPS.val rfl rfl rfl (Ev.fieldAddr (fld_run rfl) rfl) ?_
    refine OPS.val rfl rfl rfl (Ev.load1 (agg_run rfl) rfl (by first | exact H.ldL 0 rfl _ rfl | exact H.ldL 1 rfl _ rfl | exact H.ldL 2 rfl _ rfl | exact H.ldL 3 rfl _ rfl | exact H.ldL 4 rfl _ rfl | exact H.ldL 5 rfl _ rfl | exact H.ldL 6 rfl _ rfl | exact H.ldL 7 rfl _ rfl | exact H.ld0 (by assumption) | assumption | exact H.ldS (by assumption) (by assumption))) ?_
    refine OPS.val rfl rfl rfl (Ev.eql rfl rfl) ?_
    refine OPS.val rfl rfl rfl (Ev.mvB rfl) ?_
    refine OPS.gval rfl rfl rfl rfl rfl (fun hg => Ev.fieldAddr (fld_run rfl) (by first | rfl | exact gvE hg rfl)) ?_
    refine OPS.gval rfl rfl rfl rfl rfl (fun hg => Ev.load1 (agg_run rfl) (by first | rfl | exact gvE hg rfl) (by first | exact H.ldL 0 rfl _ rfl | exact H.ldL 1 rfl _ rfl | exact H.ldL 2 rfl _ rfl | exact H.ldL 3 rfl _ rfl | exact H.ldL 4 rfl _ rfl | exact H.ldL 5 rfl _ rfl | exact H.ldL 6 rfl _ rfl | exact H.ldL 7 rfl _ rfl | exact H.ld0 (by assumption) | assumption | exact H.ldS (by assumption) (by assumption))) ?_
    refine OPS.gval rfl rfl rfl rfl rfl (fun hg => Ev.eql (by first | rfl | exact gvE hg rfl) (by first | rfl | exact gvE hg rfl)) ?_
    refine OPS.val rfl rfl rfl ((by first | exact Ev.pickOr rfl rfl rfl | exact Ev.pickAnd rfl rfl rfl)) ?_
    refine OPS.nil ?_
    refine WP.cond rfl (fun hc4 => ?_) (fun hc4 => ?_)
    · refine WP.region ?_
      refine OPS.val rfl rfl rfl (Ev.fieldAddr (fld_run rfl) rfl) ?_
      refine OPS.val rfl rfl rfl (Ev.load1 (agg_run rfl) rfl (by first | exact H.ldL 0 rfl _ rfl | exact H.ldL 1 rfl _ rfl | exact H.ldL 2 rfl _ rfl | exact H.ldL 3 rfl _ rfl | exact H.ldL 4 rfl _ rfl | exact H.ldL 5 rfl _ rfl | exact H.ldL 6 rfl _ rfl | exact H.ldL 7 rfl _ rfl | exact H.ld0 (by assumption) | assumption | exact H.ldS (by assumption) (by assumption))) ?_
      refine OPS.call (d := some 32) rfl rfl rfl (EvC.func (fun_run rfl)) (within x.i 1 1000000 _) ?_
      rintro _ w ⟨rfl, hb⟩
      refine ⟨_, rfl, ?_⟩
      replace H := H.toBelow hb; clear hb
      refine OPS.val rfl rfl rfl (Ev.asB rfl) ?_
      refine OPS.nil ?_
      refine WP.seq ?_
      refine WP.region ?_
      refine OPS.val rfl rfl rfl (Ev.mvB rfl) ?_
      refine OPS.val rfl rfl rfl (Ev.mvB rfl) ?_
      refine OPS.gval rfl rfl rfl rfl rfl (fun hg => Ev.mvB (by first | rfl | exact gvE hg rfl)) ?_
      refine OPS.val rfl rfl rfl ((by first | exact Ev.pickOr rfl rfl rfl | exact Ev.pickAnd rfl rfl rfl)) ?_
      refine OPS.val rfl rfl rfl (Ev.asB rfl) ?_
      refine OPS.nil ?_
      refine WP.ret ⟨_, rfl, ?_⟩
      refine ⟨?_, H.below⟩
      rw [nmB]
      by_cases h3 : x.k = 3 <;> by_cases h4 : x.k = 4 <;> simp_all <;> rfl
    refine WP.skip ?_
    refine WP.seq ?_
    refine WP.region ?_
    refine OPS.val rfl rfl rfl (Ev.mvB rfl) ?_
    refine OPS.val rfl rfl rfl (Ev.mvB rfl) ?_
    refine OPS.gval rfl rfl rfl rfl rfl (fun hg => Ev.mvB (by first | rfl | exact gvE hg rfl)) ?_
    refine OPS.val rfl rfl rfl ((by first | exact Ev.pickOr rfl rfl rfl | exact Ev.pickAnd rfl rfl rfl)) ?_
    refine OPS.val rfl rfl rfl (Ev.asB rfl) ?_
    refine OPS.nil ?_
    refine WP.ret ⟨_, rfl, ?_⟩
    refine ⟨?_, H.below⟩
    rw [nmB]
    by_cases h3 : x.k = 3 <;> by_cases h4 : x.k = 4 <;> simp_all <;> rfl
  refine WP.skip ?_
  refine WP.seq ?_
  refine WP.seq ?_
  refine WP.region ?_
  refine OPS.val rfl rfl rfl (Ev.fieldAddr (fld_run rfl) rfl) ?_
  refine OPS.val rfl rfl rfl (Ev.load1 (agg_run rfl) rfl (by first | exact H.ldL 0 rfl _ rfl | exact H.ldL 1 rfl _ rfl | exact H.ldL 2 rfl _ rfl | exact H.ldL 3 rfl _ rfl | exact H.ldL 4 rfl _ rfl | exact H.ldL 5 rfl _ rfl | exact H.ldL 6 rfl _ rfl | exact H.ldL 7 rfl _ rfl | exact H.ld0 (by assumption) | assumption | exact H.ldS (by assumption) (by assumption))) ?_
  refine OPS.val rfl rfl rfl (Ev.eql rfl rfl) ?_
  refine OPS.val rfl rfl rfl (Ev.mvB rfl) ?_
  refine OPS.gval rfl rfl rfl rfl rfl (fun hg => Ev.fieldAddr (fld_run rfl) (by first | rfl | exact gvE hg rfl)) ?_
  refine OPS.gval rfl rfl rfl rfl rfl (fun hg => Ev.load1 (agg_run rfl) (by first | rfl | exact gvE hg rfl) (by first | exact H.ldL 0 rfl _ rfl | exact H.ldL 1 rfl _ rfl | exact H.ldL 2 rfl _ rfl | exact H.ldL 3 rfl _ rfl | exact H.ldL 4 rfl _ rfl | exact H.ldL 5 rfl _ rfl | exact H.ldL 6 rfl _ rfl | exact H.ldL 7 rfl _ rfl | exact H.ld0 (by assumption) | assumption | exact H.ldS (by assumption) (by assumption))) ?_
  refine OPS.gval rfl rfl rfl rfl rfl (fun hg => Ev.eql (by first | rfl | exact gvE hg rfl) (by first | rfl | exact gvE hg rfl)) ?_
  refine OPS.val rfl rfl rfl ((by first | exact Ev.pickOr rfl rfl rfl | exact Ev.pickAnd rfl rfl rfl)) ?_
  refine OPS.nil ?_
  refine WP.cond rfl (fun hc4 => ?_) (fun hc4 => ?_)
  · refine WP.region ?_
    refine OPS.val rfl rfl rfl (Ev.fieldAddr (fld_run rfl) rfl) ?_
    refine OPS.val rfl rfl rfl (Ev.load1 (agg_run rfl) rfl (by first | exact H.ldL 0 rfl _ rfl | exact H.ldL 1 rfl _ rfl | exact H.ldL 2 rfl _ rfl | exact H.ldL 3 rfl _ rfl | exact H.ldL 4 rfl _ rfl | exact H.ldL 5 rfl _ rfl | exact H.ldL 6 rfl _ rfl | exact H.ldL 7 rfl _ rfl | exact H.ld0 (by assumption) | assumption | exact H.ldS (by assumption) (by assumption))) ?_
    refine OPS.call (d := some 32) rfl rfl rfl (EvC.func (fun_run rfl)) (within x.i 1 1000000 _) ?_
    rintro _ w ⟨rfl, hb⟩
    refine ⟨_, rfl, ?_⟩
    replace H := H.toBelow hb; clear hb
    refine OPS.val rfl rfl rfl (Ev.asB rfl) ?_
    refine OPS.nil ?_
    refine WP.seq ?_
    refine WP.region ?_
    refine OPS.val rfl rfl rfl (Ev.mvB rfl) ?_
    refine OPS.val rfl rfl rfl (Ev.mvB rfl) ?_
    refine OPS.gval rfl rfl rfl rfl rfl (fun hg => Ev.mvB (by first | rfl | exact gvE hg rfl)) ?_
    refine OPS.val rfl rfl rfl ((by first | exact Ev.pickOr rfl rfl rfl | exact Ev.pickAnd rfl rfl rfl)) ?_
    refine OPS.val rfl rfl rfl (Ev.asB rfl) ?_
    refine OPS.nil ?_
    refine WP.ret ⟨_, rfl, ?_⟩
    refine ⟨?_, H.below⟩
    rw [nmB]
    by_cases h3 : x.k = 3 <;> by_cases h4 : x.k = 4 <;> simp_all <;> rfl
  refine WP.skip ?_
  refine WP.seq ?_
  refine WP.region ?_
  refine OPS.val rfl rfl rfl (Ev.mvB rfl) ?_
  refine OPS.val rfl rfl rfl (Ev.mvB rfl) ?_
  refine OPS.gval rfl rfl rfl rfl rfl (fun hg => Ev.mvB (by first | rfl | exact gvE hg rfl)) ?_
  refine OPS.val rfl rfl rfl ((by first | exact Ev.pickOr rfl rfl rfl | exact Ev.pickAnd rfl rfl rfl)) ?_
  refine OPS.val rfl rfl rfl (Ev.asB rfl) ?_
  refine OPS.nil ?_
  refine WP.ret ⟨_, rfl, ?_⟩
  refine ⟨?_, H.below⟩
  rw [nmB]
  by_cases h3 : x.k = 3 <;> by_cases h4 : x.k = 4 <;> simp_all <;> rfl
def chk (f : Flt) (x : Evt) : Int :=
  if flErr f ≠ 0 then flErr f
  else if (!wIn x.d 0 (f.dv - 1) || !wIn x.s 1 1048576 || decide (x.a < 0) || decide (x.l < x.a) || decide (4294943999 < x.l)) = true then 1
  else if wIn x.k 1 10 = false then 14
  else if (!wIn x.b 0 (f.bk - 1) || (decide (x.k = 10) && !decide (x.b = 0))) = true then 1
  else if plB f x = false then 7
  else if nmB f x = false then 1 else 0
theorem eventCheck (f : Flt) (x : Evt) (A : Option Addr) (ca : Nat) (B : Option Addr) (cb : Nat) (w0 : World) (hf : FlAt w0 f A B) (hp : fits x.p) :
    Calls Try.prog 30 #[.agg (flC f A ca B cb).toArray, .agg (evC x).toArray] w0 fun e w' => e = .returned (I (chk f x)) ∧ Below w0.heap.size w0 w' := by
  have H := SH.refl w0
  unfold flC evC
  refine Calls.ofWP Try.func30 rfl Try.results30 Try.ntmps30 rfl ?_
  refine WP.seq ?_
  refine WP.region ?_
  refine OPS.box rfl rfl rfl rfl (cA rfl) H ?_
  clear H; intro g2 w H
  refine OPS.box rfl rfl rfl rfl (cA rfl) H ?_
  clear H; intro g3 w H
  refine OPS.val rfl rfl rfl (Ev.asI rfl) ?_
  refine OPS.nil ?_
  refine WP.seq ?_
  refine WP.seq ?_
  refine WP.region ?_
  refine OPS.val rfl rfl rfl ((by first | exact Ev.loadO 0 H rfl (agg_run rfl) (size_run rfl) (by first | assumption | rfl) rfl | exact Ev.loadO 1 H rfl (agg_run rfl) (size_run rfl) (by first | assumption | rfl) rfl | exact Ev.loadO 2 H rfl (agg_run rfl) (size_run rfl) (by first | assumption | rfl) rfl | exact Ev.loadO 3 H rfl (agg_run rfl) (size_run rfl) (by first | assumption | rfl) rfl | exact Ev.loadO 4 H rfl (agg_run rfl) (size_run rfl) (by first | assumption | rfl) rfl | exact Ev.loadO 5 H rfl (agg_run rfl) (size_run rfl) (by first | assumption | rfl) rfl | exact Ev.loadO 6 H rfl (agg_run rfl) (size_run rfl) (by first | assumption | rfl) rfl | (change Ev _ _ _ _ (Op.load 24 (Operand.tmp 2)) _; fail))) ?_
  refine OPS.call (d := some 7) rfl rfl rfl (EvC.func (fun_run rfl)) (eventFleet f A ca B cb _ (hf.sh H)) ?_
  rintro _ w ⟨rfl, hb⟩
  refine ⟨_, rfl, ?_⟩
  replace H := H.toBelow hb; clear hb
  refine OPS.val rfl rfl rfl (Ev.asI rfl) ?_
  refine OPS.nil ?_
  refine WP.seq ?_
  refine WP.region ?_
  refine OPS.val rfl rfl rfl (Ev.mvI rfl) ?_
  refine OPS.val rfl rfl rfl (Ev.neq rfl rfl) ?_
  refine OPS.nil ?_
  refine WP.cond rfl (fun hc2 => ?_) (fun hc2 => ?_)
  · refine WP.seq ?_
    refine WP.region ?_
    refine OPS.val rfl rfl rfl (Ev.mvI rfl) ?_
    refine OPS.val rfl rfl rfl (Ev.asI rfl) ?_
    refine OPS.nil ?_
    refine WP.ret ⟨_, rfl, ?_⟩
    have h0 : flErr f ≠ 0 := by simpa using hc2
    exact ⟨by rw [chk, if_pos h0]; rfl, H.below⟩
  have h0 : flErr f = 0 := by simpa using hc2
  obtain ⟨hb1, hb2, hb3⟩ : (1 ≤ f.bk ∧ f.bk ≤ 128) ∧ (1 ≤ f.rd ∧ f.rd ≤ 128) ∧ (1 ≤ f.dv ∧ f.dv ≤ 256) := by
    have h := h0
    rw [flErr] at h
    split at h
    · cases h
    · rename_i hn; simpa [wIn, and_assoc] using hn
  refine WP.skip ?_
  refine WP.seq ?_
  refine WP.seq ?_
  refine WP.region ?_
  refine OPS.val rfl rfl rfl (Ev.fieldAddr (fld_run rfl) rfl) ?_
  refine OPS.val rfl rfl rfl (Ev.load1 (agg_run rfl) rfl (by first | exact H.ldL 0 rfl _ rfl | exact H.ldL 1 rfl _ rfl | exact H.ldL 2 rfl _ rfl | exact H.ldL 3 rfl _ rfl | exact H.ldL 4 rfl _ rfl | exact H.ldL 5 rfl _ rfl | exact H.ldL 6 rfl _ rfl | exact H.ldL 7 rfl _ rfl | exact H.ld0 (by assumption) | assumption | exact H.ldS (by assumption) (by assumption))) ?_
  refine OPS.val rfl rfl rfl (Ev.fieldAddr (fld_run rfl) rfl) ?_
  refine OPS.val rfl rfl rfl (Ev.load1 (agg_run rfl) rfl (by first | exact H.ldL 0 rfl _ rfl | exact H.ldL 1 rfl _ rfl | exact H.ldL 2 rfl _ rfl | exact H.ldL 3 rfl _ rfl | exact H.ldL 4 rfl _ rfl | exact H.ldL 5 rfl _ rfl | exact H.ldL 6 rfl _ rfl | exact H.ldL 7 rfl _ rfl | exact H.ld0 (by assumption) | assumption | exact H.ldS (by assumption) (by assumption))) ?_
  refine OPS.val rfl rfl rfl (Ev.sub rfl rfl (by unfold fits; omega)) ?_
  refine OPS.call (d := some 16) rfl rfl rfl (EvC.func (fun_run rfl)) (within x.d 0 (f.dv - 1) _) ?_
  rintro _ w ⟨rfl, hb⟩
  refine ⟨_, rfl, ?_⟩
  replace H := H.toBelow hb; clear hb
  refine OPS.val rfl rfl rfl (Ev.not rfl) ?_
  refine OPS.val rfl rfl rfl (Ev.mvB rfl) ?_
  refine OPS.gval rfl rfl rfl rfl rfl (fun hg => Ev.fieldAddr (fld_run rfl) (by first | rfl | exact gvE hg rfl)) ?_
  refine OPS.gval rfl rfl rfl rfl rfl (fun hg => Ev.load1 (agg_run rfl) (by first | rfl | exact gvE hg rfl) (by first | exact H.ldL 0 rfl _ rfl | exact H.ldL 1 rfl _ rfl | exact H.ldL 2 rfl _ rfl | exact H.ldL 3 rfl _ rfl | exact H.ldL 4 rfl _ rfl | exact H.ldL 5 rfl _ rfl | exact H.ldL 6 rfl _ rfl | exact H.ldL 7 rfl _ rfl | exact H.ld0 (by assumption) | assumption | exact H.ldS (by assumption) (by assumption))) ?_
  refine OPS.gcall0 (f := 27) (within x.s 1 1048576 _) (fun _ _ h => h) rfl rfl rfl rfl rfl (fun hg => EvC.conv (EvC.func (fun_run rfl)) (l3 (by first | rfl | exact gvE hg rfl) (by first | rfl | exact gvE hg rfl) (by first | rfl | exact gvE hg rfl))) ?_
  intro w hbc; replace H := H.toBelow hbc
  refine OPS.gval rfl rfl rfl rfl rfl (fun hg => Ev.not (by first | rfl | exact gvE hg rfl)) ?_
  refine OPS.val rfl rfl rfl ((by first | exact Ev.pickOr rfl rfl rfl | exact Ev.pickAnd rfl rfl rfl)) ?_
  refine OPS.val rfl rfl rfl (Ev.mvB rfl) ?_
  refine OPS.gval rfl rfl rfl rfl rfl (fun hg => Ev.fieldAddr (fld_run rfl) (by first | rfl | exact gvE hg rfl)) ?_
  refine OPS.gval rfl rfl rfl rfl rfl (fun hg => Ev.load1 (agg_run rfl) (by first | rfl | exact gvE hg rfl) (by first | exact H.ldL 0 rfl _ rfl | exact H.ldL 1 rfl _ rfl | exact H.ldL 2 rfl _ rfl | exact H.ldL 3 rfl _ rfl | exact H.ldL 4 rfl _ rfl | exact H.ldL 5 rfl _ rfl | exact H.ldL 6 rfl _ rfl | exact H.ldL 7 rfl _ rfl | exact H.ld0 (by assumption) | assumption | exact H.ldS (by assumption) (by assumption))) ?_
  refine OPS.gval rfl rfl rfl rfl rfl (fun hg => Ev.lss (by first | rfl | exact gvE hg rfl) (by first | rfl | exact gvE hg rfl)) ?_
  refine OPS.val rfl rfl rfl ((by first | exact Ev.pickOr rfl rfl rfl | exact Ev.pickAnd rfl rfl rfl)) ?_
  refine OPS.val rfl rfl rfl (Ev.mvB rfl) ?_
  refine OPS.gval rfl rfl rfl rfl rfl (fun hg => Ev.fieldAddr (fld_run rfl) (by first | rfl | exact gvE hg rfl)) ?_
  refine OPS.gval rfl rfl rfl rfl rfl (fun hg => Ev.load1 (agg_run rfl) (by first | rfl | exact gvE hg rfl) (by first | exact H.ldL 0 rfl _ rfl | exact H.ldL 1 rfl _ rfl | exact H.ldL 2 rfl _ rfl | exact H.ldL 3 rfl _ rfl | exact H.ldL 4 rfl _ rfl | exact H.ldL 5 rfl _ rfl | exact H.ldL 6 rfl _ rfl | exact H.ldL 7 rfl _ rfl | exact H.ld0 (by assumption) | assumption | exact H.ldS (by assumption) (by assumption))) ?_
  refine OPS.gval rfl rfl rfl rfl rfl (fun hg => Ev.fieldAddr (fld_run rfl) (by first | rfl | exact gvE hg rfl)) ?_
  refine OPS.gval rfl rfl rfl rfl rfl (fun hg => Ev.load1 (agg_run rfl) (by first | rfl | exact gvE hg rfl) (by first | exact H.ldL 0 rfl _ rfl | exact H.ldL 1 rfl _ rfl | exact H.ldL 2 rfl _ rfl | exact H.ldL 3 rfl _ rfl | exact H.ldL 4 rfl _ rfl | exact H.ldL 5 rfl _ rfl | exact H.ldL 6 rfl _ rfl | exact H.ldL 7 rfl _ rfl | exact H.ld0 (by assumption) | assumption | exact H.ldS (by assumption) (by assumption))) ?_
  refine OPS.gval rfl rfl rfl rfl rfl (fun hg => Ev.lss (by first | rfl | exact gvE hg rfl) (by first | rfl | exact gvE hg rfl)) ?_
  refine OPS.val rfl rfl rfl ((by first | exact Ev.pickOr rfl rfl rfl | exact Ev.pickAnd rfl rfl rfl)) ?_
  refine OPS.val rfl rfl rfl (Ev.mvB rfl) ?_
  refine OPS.gval rfl rfl rfl rfl rfl (fun hg => Ev.fieldAddr (fld_run rfl) (by first | rfl | exact gvE hg rfl)) ?_
  refine OPS.gval rfl rfl rfl rfl rfl (fun hg => Ev.load1 (agg_run rfl) (by first | rfl | exact gvE hg rfl) (by first | exact H.ldL 0 rfl _ rfl | exact H.ldL 1 rfl _ rfl | exact H.ldL 2 rfl _ rfl | exact H.ldL 3 rfl _ rfl | exact H.ldL 4 rfl _ rfl | exact H.ldL 5 rfl _ rfl | exact H.ldL 6 rfl _ rfl | exact H.ldL 7 rfl _ rfl | exact H.ld0 (by assumption) | assumption | exact H.ldS (by assumption) (by assumption))) ?_
  refine OPS.gval rfl rfl rfl rfl rfl (fun hg => Ev.gtr (by first | rfl | exact gvE hg rfl) (by first | rfl | exact gvE hg rfl)) ?_
  refine OPS.val rfl rfl rfl ((by first | exact Ev.pickOr rfl rfl rfl | exact Ev.pickAnd rfl rfl rfl)) ?_
  refine OPS.nil ?_
  refine WP.cond rfl (fun hc4 => ?_) (fun hc4 => ?_)
  · refine WP.seq ?_
    refine WP.region ?_
    refine OPS.val rfl rfl rfl (Ev.asI rfl) ?_
    refine OPS.nil ?_
    refine WP.ret ⟨_, rfl, ?_⟩
    exact ⟨by rw [chk, if_neg (by simpa using h0), if_pos hc4]; rfl, H.below⟩
  refine WP.skip ?_
  refine WP.seq ?_
  refine WP.seq ?_
  refine WP.region ?_
  refine OPS.val rfl rfl rfl (Ev.fieldAddr (fld_run rfl) rfl) ?_
  refine OPS.val rfl rfl rfl (Ev.load1 (agg_run rfl) rfl (by first | exact H.ldL 0 rfl _ rfl | exact H.ldL 1 rfl _ rfl | exact H.ldL 2 rfl _ rfl | exact H.ldL 3 rfl _ rfl | exact H.ldL 4 rfl _ rfl | exact H.ldL 5 rfl _ rfl | exact H.ldL 6 rfl _ rfl | exact H.ldL 7 rfl _ rfl | exact H.ld0 (by assumption) | assumption | exact H.ldS (by assumption) (by assumption))) ?_
  refine OPS.call (d := some 43) rfl rfl rfl (EvC.func (fun_run rfl)) (within x.k 1 10 _) ?_
  rintro _ w ⟨rfl, hb⟩
  refine ⟨_, rfl, ?_⟩
  replace H := H.toBelow hb; clear hb
  refine OPS.val rfl rfl rfl (Ev.not rfl) ?_
  refine OPS.nil ?_
  refine WP.cond rfl (fun hc6 => ?_) (fun hc6 => ?_)
  · refine WP.seq ?_
    refine WP.region ?_
    refine OPS.val rfl rfl rfl (Ev.asI rfl) ?_
    refine OPS.nil ?_
    refine WP.ret ⟨_, rfl, ?_⟩
    exact ⟨by rw [chk, if_neg (by simpa using h0), if_neg (by simpa using hc4), if_pos (by simpa using hc6)]; rfl, H.below⟩
  refine WP.skip ?_
  refine WP.seq ?_
  refine WP.seq ?_
  refine WP.region ?_
  refine OPS.val rfl rfl rfl (Ev.fieldAddr (fld_run rfl) rfl) ?_
  refine OPS.val rfl rfl rfl (Ev.load1 (agg_run rfl) rfl (by first | exact H.ldL 0 rfl _ rfl | exact H.ldL 1 rfl _ rfl | exact H.ldL 2 rfl _ rfl | exact H.ldL 3 rfl _ rfl | exact H.ldL 4 rfl _ rfl | exact H.ldL 5 rfl _ rfl | exact H.ldL 6 rfl _ rfl | exact H.ldL 7 rfl _ rfl | exact H.ld0 (by assumption) | assumption | exact H.ldS (by assumption) (by assumption))) ?_
  refine OPS.val rfl rfl rfl (Ev.fieldAddr (fld_run rfl) rfl) ?_
  refine OPS.val rfl rfl rfl (Ev.load1 (agg_run rfl) rfl (by first | exact H.ldL 0 rfl _ rfl | exact H.ldL 1 rfl _ rfl | exact H.ldL 2 rfl _ rfl | exact H.ldL 3 rfl _ rfl | exact H.ldL 4 rfl _ rfl | exact H.ldL 5 rfl _ rfl | exact H.ldL 6 rfl _ rfl | exact H.ldL 7 rfl _ rfl | exact H.ld0 (by assumption) | assumption | exact H.ldS (by assumption) (by assumption))) ?_
  refine OPS.val rfl rfl rfl (Ev.sub rfl rfl (by unfold fits; omega)) ?_
  refine OPS.call (d := some 50) rfl rfl rfl (EvC.func (fun_run rfl)) (within x.b 0 (f.bk - 1) _) ?_
  rintro _ w ⟨rfl, hb⟩
  refine ⟨_, rfl, ?_⟩
  replace H := H.toBelow hb; clear hb
  refine OPS.val rfl rfl rfl (Ev.not rfl) ?_
  refine OPS.val rfl rfl rfl (Ev.mvB rfl) ?_
  refine OPS.gval rfl rfl rfl rfl rfl (fun hg => Ev.fieldAddr (fld_run rfl) (by first | rfl | exact gvE hg rfl)) ?_
  refine OPS.gval rfl rfl rfl rfl rfl (fun hg => Ev.load1 (agg_run rfl) (by first | rfl | exact gvE hg rfl) (by first | exact H.ldL 0 rfl _ rfl | exact H.ldL 1 rfl _ rfl | exact H.ldL 2 rfl _ rfl | exact H.ldL 3 rfl _ rfl | exact H.ldL 4 rfl _ rfl | exact H.ldL 5 rfl _ rfl | exact H.ldL 6 rfl _ rfl | exact H.ldL 7 rfl _ rfl | exact H.ld0 (by assumption) | assumption | exact H.ldS (by assumption) (by assumption))) ?_
  refine OPS.gval rfl rfl rfl rfl rfl (fun hg => Ev.eql (by first | rfl | exact gvE hg rfl) (by first | rfl | exact gvE hg rfl)) ?_
  refine OPS.gval rfl rfl rfl rfl rfl (fun hg => Ev.mvB (by first | rfl | exact gvE hg rfl)) ?_
  refine OPS.gvalN rfl rfl (GB.g rfl) rfl rfl (fun hg => Ev.fieldAddr (fld_run rfl) (by first | rfl | exact gvE hg rfl)) ?_
  refine OPS.gvalN rfl rfl (GB.g rfl) rfl rfl (fun hg => Ev.load1 (agg_run rfl) (by first | rfl | exact gvE hg rfl) (by first | exact H.ldL 0 rfl _ rfl | exact H.ldL 1 rfl _ rfl | exact H.ldL 2 rfl _ rfl | exact H.ldL 3 rfl _ rfl | exact H.ldL 4 rfl _ rfl | exact H.ldL 5 rfl _ rfl | exact H.ldL 6 rfl _ rfl | exact H.ldL 7 rfl _ rfl | exact H.ld0 (by assumption) | assumption | exact H.ldS (by assumption) (by assumption))) ?_
  refine OPS.gvalN rfl rfl (GB.g rfl) rfl rfl (fun hg => Ev.neq (by first | rfl | exact gvE hg rfl) (by first | rfl | exact gvE hg rfl)) ?_
  refine OPS.gval rfl rfl rfl rfl rfl (fun hg => (by first | exact Ev.pickAnd2 (beqT hg) (gvE hg rfl) rfl rfl | exact Ev.pickOr2 (beqT hg) (gvE hg rfl) rfl rfl)) ?_
  refine OPS.val rfl rfl rfl ((by first | exact Ev.pickOr rfl rfl rfl | exact Ev.pickAnd rfl rfl rfl)) ?_
  refine OPS.nil ?_
  refine WP.cond rfl (fun hc8 => ?_) (fun hc8 => ?_)
  · refine WP.seq ?_
    refine WP.region ?_
    refine OPS.val rfl rfl rfl (Ev.asI rfl) ?_
    refine OPS.nil ?_
    refine WP.ret ⟨_, rfl, ?_⟩
    exact ⟨by rw [chk, if_neg (by simpa using h0), if_neg (by simpa using hc4), if_neg (by simpa using hc6), if_pos hc8]; rfl, H.below⟩
  refine WP.skip ?_
  refine WP.seq ?_
  refine WP.seq ?_
  refine WP.region ?_
  refine OPS.val rfl rfl rfl ((by first | exact Ev.loadO 0 H rfl (agg_run rfl) (size_run rfl) (by first | assumption | rfl) rfl | exact Ev.loadO 1 H rfl (agg_run rfl) (size_run rfl) (by first | assumption | rfl) rfl | exact Ev.loadO 2 H rfl (agg_run rfl) (size_run rfl) (by first | assumption | rfl) rfl | exact Ev.loadO 3 H rfl (agg_run rfl) (size_run rfl) (by first | assumption | rfl) rfl | exact Ev.loadO 4 H rfl (agg_run rfl) (size_run rfl) (by first | assumption | rfl) rfl | exact Ev.loadO 5 H rfl (agg_run rfl) (size_run rfl) (by first | assumption | rfl) rfl | exact Ev.loadO 6 H rfl (agg_run rfl) (size_run rfl) (by first | assumption | rfl) rfl | (change Ev _ _ _ _ (Op.load 24 (Operand.tmp 2)) _; fail))) ?_
  refine OPS.val rfl rfl rfl ((by first | exact Ev.loadO 0 H rfl (agg_run rfl) (size_run rfl) (by first | assumption | rfl) rfl | exact Ev.loadO 1 H rfl (agg_run rfl) (size_run rfl) (by first | assumption | rfl) rfl | exact Ev.loadO 2 H rfl (agg_run rfl) (size_run rfl) (by first | assumption | rfl) rfl | exact Ev.loadO 3 H rfl (agg_run rfl) (size_run rfl) (by first | assumption | rfl) rfl | exact Ev.loadO 4 H rfl (agg_run rfl) (size_run rfl) (by first | assumption | rfl) rfl | exact Ev.loadO 5 H rfl (agg_run rfl) (size_run rfl) (by first | assumption | rfl) rfl | exact Ev.loadO 6 H rfl (agg_run rfl) (size_run rfl) (by first | assumption | rfl) rfl | (change Ev _ _ _ _ (Op.load 56 (Operand.tmp 3)) _; fail))) ?_
  refine OPS.call (d := some 64) rfl rfl rfl (EvC.func (fun_run rfl)) (placed f x A ca B cb _ (hf.sh H) hp) ?_
  rintro _ w ⟨rfl, hb⟩
  refine ⟨_, rfl, ?_⟩
  replace H := H.toBelow hb; clear hb
  refine OPS.val rfl rfl rfl (Ev.not rfl) ?_
  refine OPS.nil ?_
  refine WP.cond rfl (fun hc10 => ?_) (fun hc10 => ?_)
  · refine WP.seq ?_
    refine WP.region ?_
    refine OPS.val rfl rfl rfl (Ev.asI rfl) ?_
    refine OPS.nil ?_
    refine WP.ret ⟨_, rfl, ?_⟩
    exact ⟨by rw [chk, if_neg (by simpa using h0), if_neg (by simpa using hc4), if_neg (by simpa using hc6), if_neg (by simpa using hc8), if_pos (by simpa using hc10)]; rfl, H.below⟩
  refine WP.skip ?_
  refine WP.seq ?_
  refine WP.seq ?_
  refine WP.region ?_
  refine OPS.val rfl rfl rfl ((by first | exact Ev.loadO 0 H rfl (agg_run rfl) (size_run rfl) (by first | assumption | rfl) rfl | exact Ev.loadO 1 H rfl (agg_run rfl) (size_run rfl) (by first | assumption | rfl) rfl | exact Ev.loadO 2 H rfl (agg_run rfl) (size_run rfl) (by first | assumption | rfl) rfl | exact Ev.loadO 3 H rfl (agg_run rfl) (size_run rfl) (by first | assumption | rfl) rfl | exact Ev.loadO 4 H rfl (agg_run rfl) (size_run rfl) (by first | assumption | rfl) rfl | exact Ev.loadO 5 H rfl (agg_run rfl) (size_run rfl) (by first | assumption | rfl) rfl | exact Ev.loadO 6 H rfl (agg_run rfl) (size_run rfl) (by first | assumption | rfl) rfl | (change Ev _ _ _ _ (Op.load 24 (Operand.tmp 2)) _; fail))) ?_
  refine OPS.val rfl rfl rfl ((by first | exact Ev.loadO 0 H rfl (agg_run rfl) (size_run rfl) (by first | assumption | rfl) rfl | exact Ev.loadO 1 H rfl (agg_run rfl) (size_run rfl) (by first | assumption | rfl) rfl | exact Ev.loadO 2 H rfl (agg_run rfl) (size_run rfl) (by first | assumption | rfl) rfl | exact Ev.loadO 3 H rfl (agg_run rfl) (size_run rfl) (by first | assumption | rfl) rfl | exact Ev.loadO 4 H rfl (agg_run rfl) (size_run rfl) (by first | assumption | rfl) rfl | exact Ev.loadO 5 H rfl (agg_run rfl) (size_run rfl) (by first | assumption | rfl) rfl | exact Ev.loadO 6 H rfl (agg_run rfl) (size_run rfl) (by first | assumption | rfl) rfl | (change Ev _ _ _ _ (Op.load 56 (Operand.tmp 3)) _; fail))) ?_
  refine OPS.call (d := some 68) rfl rfl rfl (EvC.func (fun_run rfl)) (named f x A ca B cb _ (by simp [wIn]; omega)) ?_
  rintro _ w ⟨rfl, hb⟩
  refine ⟨_, rfl, ?_⟩
  replace H := H.toBelow hb; clear hb
  refine OPS.val rfl rfl rfl (Ev.not rfl) ?_
  refine OPS.nil ?_
  refine WP.cond rfl (fun hc12 => ?_) (fun hc12 => ?_)
  · refine WP.seq ?_
    refine WP.region ?_
    refine OPS.val rfl rfl rfl (Ev.asI rfl) ?_
    refine OPS.nil ?_
    refine WP.ret ⟨_, rfl, ?_⟩
    exact ⟨by rw [chk, if_neg (by simpa using h0), if_neg (by simpa using hc4), if_neg (by simpa using hc6), if_neg (by simpa using hc8), if_neg (by simpa using hc10), if_pos (by simpa using hc12)]; rfl, H.below⟩
  refine WP.skip ?_
  refine WP.seq ?_
  refine WP.region ?_
  refine OPS.val rfl rfl rfl (Ev.asI rfl) ?_
  refine OPS.nil ?_
  refine WP.ret ⟨_, rfl, ?_⟩
  exact ⟨by rw [chk, if_neg (by simpa using h0), if_neg (by simpa using hc4), if_neg (by simpa using hc6), if_neg (by simpa using hc8), if_neg (by simpa using hc10), if_neg (by simpa using hc12)]; rfl, H.below⟩
theorem few (f : Flt) (A : Option Addr) (ca : Nat) (B : Option Addr) (cb : Nat) (E : Option Addr) (n ce : Nat) (w0 : World) :
    Calls Try.prog 4 #[.agg (flC f A ca B cb).toArray, .slice E n ce] w0 fun e w' => e = .returned (.bool ((decide ((n : Int) ≤ 40) && decide ((f.ds.length : Int) ≤ 40)) && decide ((f.ts.length : Int) ≤ 20))) ∧ Below w0.heap.size w0 w' := by
  have H := SH.refl w0
  unfold flC
  refine Calls.ofWP Try.func4 rfl Try.results4 Try.ntmps4 rfl ?_
  refine WP.seq ?_
  refine WP.region ?_
  refine OPS.box rfl rfl rfl rfl (cA rfl) H ?_
  clear H; intro g2 w H
  refine OPS.val rfl rfl rfl (Ev.asB rfl) ?_
  refine OPS.nil ?_
  refine WP.seq ?_
  refine WP.region ?_
  refine OPS.val rfl rfl rfl (Ev.mvS rfl) ?_
  refine OPS.val rfl rfl rfl (Ev.len (el_run rfl) rfl) ?_
  refine OPS.val rfl rfl rfl (Ev.leq rfl rfl) ?_
  refine OPS.val rfl rfl rfl (Ev.mvB rfl) ?_
  refine OPS.gval rfl rfl rfl rfl rfl (fun hg => Ev.fieldAddr (fld_run rfl) (by first | rfl | exact gvE hg rfl)) ?_
  refine OPS.gval rfl rfl rfl rfl rfl (fun hg => Ev.load1 (agg_run rfl) (by first | rfl | exact gvE hg rfl) (by first | exact H.ldL 0 rfl _ rfl | exact H.ldL 1 rfl _ rfl | exact H.ldL 2 rfl _ rfl | exact H.ldL 3 rfl _ rfl | exact H.ldL 4 rfl _ rfl | exact H.ldL 5 rfl _ rfl | exact H.ldL 6 rfl _ rfl | exact H.ldL 7 rfl _ rfl | exact H.ld0 (by assumption) | assumption | exact H.ldS (by assumption) (by assumption))) ?_
  refine OPS.gval rfl rfl rfl rfl rfl (fun hg => Ev.len (el_run rfl) (by first | rfl | exact gvE hg rfl)) ?_
  refine OPS.gval rfl rfl rfl rfl rfl (fun hg => Ev.leq (by first | rfl | exact gvE hg rfl) (by first | rfl | exact gvE hg rfl)) ?_
  refine OPS.val rfl rfl rfl ((by first | exact Ev.pickOr rfl rfl rfl | exact Ev.pickAnd rfl rfl rfl)) ?_
  refine OPS.val rfl rfl rfl (Ev.mvB rfl) ?_
  refine OPS.gval rfl rfl rfl rfl rfl (fun hg => Ev.fieldAddr (fld_run rfl) (by first | rfl | exact gvE hg rfl)) ?_
  refine OPS.gval rfl rfl rfl rfl rfl (fun hg => Ev.load1 (agg_run rfl) (by first | rfl | exact gvE hg rfl) (by first | exact H.ldL 0 rfl _ rfl | exact H.ldL 1 rfl _ rfl | exact H.ldL 2 rfl _ rfl | exact H.ldL 3 rfl _ rfl | exact H.ldL 4 rfl _ rfl | exact H.ldL 5 rfl _ rfl | exact H.ldL 6 rfl _ rfl | exact H.ldL 7 rfl _ rfl | exact H.ld0 (by assumption) | assumption | exact H.ldS (by assumption) (by assumption))) ?_
  refine OPS.gval rfl rfl rfl rfl rfl (fun hg => Ev.len (el_run rfl) (by first | rfl | exact gvE hg rfl)) ?_
  refine OPS.gval rfl rfl rfl rfl rfl (fun hg => Ev.leq (by first | rfl | exact gvE hg rfl) (by first | rfl | exact gvE hg rfl)) ?_
  refine OPS.val rfl rfl rfl ((by first | exact Ev.pickOr rfl rfl rfl | exact Ev.pickAnd rfl rfl rfl)) ?_
  refine OPS.val rfl rfl rfl (Ev.asB rfl) ?_
  refine OPS.nil ?_
  refine WP.ret ⟨_, rfl, ?_⟩
  exact ⟨rfl, H.below⟩
end Go.Proofs.Ytchjbjplddhknaa

/-
  The orders of events are total; the sorts of the program.
-/
set_option linter.all false
namespace Go.Proofs.Ytchjbjplddhknaa
open Go Go.RowKit
open Go.Sort

theorem cmpI_neg {a b : Int} : cmpI a b < 0 ↔ a < b := by unfold cmpI; split <;> (try split) <;> omega
theorem cmpL_self : ∀ (a : List Int), cmpL a a = 0
  | [] => rfl
  | x :: a => by rw [cmpL, if_neg (by simp [cmpI])]; exact cmpL_self a
theorem cmpL_neg {x y : Int} {a b : List Int} : cmpL (x :: a) (y :: b) < 0 ↔ x < y ∨ (x = y ∧ cmpL a b < 0) := by
  rw [cmpL]
  by_cases h : cmpI x y ≠ 0
  · rw [if_pos h, cmpI_neg]
    have : x ≠ y := fun he => h (cmpI_zero.2 he)
    omega
  · rw [if_neg h]
    have : x = y := cmpI_zero.1 (by simpa using h)
    omega
theorem cmpL_trans : ∀ (a b c : List Int), a.length = b.length → b.length = c.length → cmpL a b < 0 → cmpL b c < 0 → cmpL a c < 0
  | [], [], [], _, _, h, _ => h
  | x :: a, y :: b, z :: c, h1, h2, h3, h4 => by
    rw [cmpL_neg] at h3 h4 ⊢
    have ih := cmpL_trans a b c (by simpa using h1) (by simpa using h2)
    rcases h3 with h3 | ⟨rfl, h3⟩
    · rcases h4 with h4 | ⟨rfl, h4⟩
      · exact .inl (by omega)
      · exact .inl h3
    · rcases h4 with h4 | ⟨rfl, h4⟩
      · exact .inl h4
      · exact .inr ⟨rfl, ih h3 h4⟩
theorem cmpL_tri : ∀ (a b : List Int), a.length = b.length → ¬ cmpL a b < 0 → ¬ cmpL b a < 0 → a = b
  | [], [], _, _, _ => rfl
  | x :: a, y :: b, h1, h2, h3 => by
    rw [cmpL_neg] at h2 h3
    have hxy : x = y := by omega
    subst hxy
    rw [cmpL_tri a b (by simpa using h1) (fun h => h2 (.inr ⟨rfl, h⟩)) (fun h => h3 (.inr ⟨rfl, h⟩))]
theorem cmpL_asym (a b : List Int) (h : a.length = b.length) (h1 : cmpL a b < 0) (h2 : cmpL b a < 0) : False := by
  have := cmpL_trans a b a h h.symm h1 h2
  rw [cmpL_self] at this
  omega
theorem cmpL_ntrans (a b c : List Int) (h1 : a.length = b.length) (h2 : b.length = c.length) (h3 : ¬ cmpL a b < 0) (h4 : ¬ cmpL b c < 0) : ¬ cmpL a c < 0 := fun h => by
  by_cases h5 : cmpL b a < 0
  · exact h4 (cmpL_trans b a c h1.symm (h1.trans h2) h5 h)
  · have := cmpL_tri a b h1 h3 h5
    subst this
    exact h4 h
/-- an order by keys of one length -/
theorem swo_key (cf : Evt → Evt → Int) (key : Evt → List Int) (n : Nat) (hl : ∀ x, (key x).length = n) (hi : ∀ x y, key x = key y → x = y) (hc : ∀ x y, cf x y < 0 ↔ cmpL (key x) (key y) < 0) :
    SWO (Go.Proofs.ltOf cf) ∧ ∀ x y, (Go.Proofs.ltOf cf) x y = false → (Go.Proofs.ltOf cf) y x = false → x = y := by
  have hlt : ∀ x y, (Go.Proofs.ltOf cf) x y = decide (cmpL (key x) (key y) < 0) := fun x y => by unfold Go.Proofs.ltOf; simp [hc]
  have hll : ∀ x y, (key x).length = (key y).length := fun x y => (hl x).trans (hl y).symm
  refine ⟨⟨fun x => ?_, fun x y z h1 h2 => ?_, fun x y z h1 h2 => ?_⟩, fun x y h1 h2 => ?_⟩
  · rw [hlt, cmpL_self]; rfl
  · rw [hlt, decide_eq_true_eq] at *; exact cmpL_trans _ _ _ (hll _ _) (hll _ _) h1 h2
  · rw [hlt, decide_eq_false_iff_not] at *; exact cmpL_ntrans _ _ _ (hll _ _) (hll _ _) h1 h2
  · rw [hlt, decide_eq_false_iff_not] at h1 h2; exact hi x y (cmpL_tri _ _ (hll _ _) h1 h2)
theorem evK_inj (x y : Evt) (h : evK x = evK y) : x = y := by
  cases x; cases y
  simp only [evK, List.cons.injEq, and_true] at h
  simp only [Evt.mk.injEq]
  omega
def numK (x : Evt) : List Int := x.d :: x.s :: evK x
theorem numC_eq (x y : Evt) : numC x y = cmpL (numK x) (numK y) := by
  rw [numC, numK, numK, cmpL, cmpL, orI, orI, orI]
  show _ = if cmpI x.d y.d ≠ 0 then cmpI x.d y.d else if cmpI x.s y.s ≠ 0 then cmpI x.s y.s else cmpE x y
  split
  · rfl
  · split
    · rfl
    · split
      · rfl
      · rename_i h; simp only [orI]; omega
theorem ordE_neg (x y : Evt) : ordE x y < 0 ↔ cmpE x y < 0 := by
  rw [ordE]
  split
  · rename_i h; exact ⟨fun _ => h, fun _ => by omega⟩
  · rename_i h
    split <;> omega
/-- the order in which a replica hands out its events, and in which Set does -/
def evLe (x y : Evt) : Bool := !decide (cmpE y x < 0)
theorem swoE : SWO (Go.Proofs.ltOf cmpE) ∧ ∀ x y, (Go.Proofs.ltOf cmpE) x y = false → (Go.Proofs.ltOf cmpE) y x = false → x = y := swo_key cmpE evK 9 evK_len evK_inj (fun _ _ => Iff.rfl)
theorem swoO : SWO (Go.Proofs.ltOf ordE) ∧ ∀ x y, (Go.Proofs.ltOf ordE) x y = false → (Go.Proofs.ltOf ordE) y x = false → x = y := swo_key ordE evK 9 evK_len evK_inj ordE_neg
theorem swoN : SWO (Go.Proofs.ltOf numC) ∧ ∀ x y, (Go.Proofs.ltOf numC) x y = false → (Go.Proofs.ltOf numC) y x = false → x = y := swo_key numC numK 11 (fun _ => rfl) (fun x y h => evK_inj x y (by simp only [numK, List.cons.injEq] at h; exact h.2.2)) (fun x y => by rw [numC_eq])
theorem leE : (fun x y => !(Go.Proofs.ltOf cmpE) y x) = evLe := rfl
theorem leO : (fun x y => !(Go.Proofs.ltOf ordE) y x) = evLe := by
  funext x y
  unfold Go.Proofs.ltOf evLe
  simp only [ordE_neg]
def numLe (x y : Evt) : Bool := !decide (numC y x < 0)
theorem sortBy (es : List Evt) (rest : List Value) (blk cap : Nat) (w : World) (hb : w.heap[blk]? = some (.cells (es.flatMap evC ++ rest).toArray 56 (0, 0))) (hl : es.length ≤ 1000) :
    Calls Try.prog 25 #[.slice (some ⟨blk, 0, none⟩) es.length cap, .func (.func 38) #[] #[]] w fun e w' => e = .returned (.tuple #[]) ∧ Go.W.SH w [blk] w' [⟨blk, 56, (es.mergeSort evLe).flatMap evC ++ rest⟩] :=
  sortE 38 cmpE swoE.1 swoE.2 (fun_run rfl) (fun x y w => D.compareE x y w) es rest blk cap w hb hl
theorem sortOrd (es : List Evt) (rest : List Value) (blk cap : Nat) (w : World) (hb : w.heap[blk]? = some (.cells (es.flatMap evC ++ rest).toArray 56 (0, 0))) (hl : es.length ≤ 1000) :
    Calls Try.prog 25 #[.slice (some ⟨blk, 0, none⟩) es.length cap, .func (.func 26) #[] #[]] w fun e w' => e = .returned (.tuple #[]) ∧ Go.W.SH w [blk] w' [⟨blk, 56, (es.mergeSort evLe).flatMap evC ++ rest⟩] := by
  rw [← leO]
  exact sortE 26 ordE swoO.1 swoO.2 (fun_run rfl) (fun x y w => D.orderE x y w) es rest blk cap w hb hl
theorem sortNum (es : List Evt) (rest : List Value) (blk cap : Nat) (w : World) (hb : w.heap[blk]? = some (.cells (es.flatMap evC ++ rest).toArray 56 (0, 0))) (hl : es.length ≤ 1000) :
    Calls Try.prog 25 #[.slice (some ⟨blk, 0, none⟩) es.length cap, .func (.func 35) #[] #[]] w fun e w' => e = .returned (.tuple #[]) ∧ Go.W.SH w [blk] w' [⟨blk, 56, (es.mergeSort numLe).flatMap evC ++ rest⟩] :=
  sortE 35 numC swoN.1 swoN.2 (fun_run rfl) (fun x y w => D.setNum x y w) es rest blk cap w hb hl
end Go.Proofs.Ytchjbjplddhknaa

/-
  Walks: slices.Clone of events, numberOf, the closure of CompactFunc.
-/
set_option linter.all false
namespace Go.Proofs.Ytchjbjplddhknaa
open Go Go.W Go.RowKit

section
variable {P : Program} {e : Env} {w : World} {ty t : TypeId} {x y : Operand}
theorem Ev.eqlSn {t' : TypeId} {el : TypeId} {a : Option Addr} {n c n' c' : Nat} (hU : ∀ w, (underlying t).run P w = .ok (.slice el) w) (hx : ev e x = .slice a n c) (hy : ev e y = .slice none n' c') : Ev P e w ty (.binOp .eql t x y t') (.bool a.isNone) :=
  ⟨fun w' _ o ho _ => by
    have hq : ∀ w, (Op.equal t (.slice a n c) (.slice none n' c')).run P w = .ok a.isNone w := by
      intro w
      unfold Op.equal
      rw [show Op.maxDepth = 9999 + 1 from rfl, Op.equalIn]
      cases a <;> simp [hU]
    unfold execOp; rw [ho]; simp [hx, hy, eqGuard, binOp, hq]⟩
end
theorem evOne (x : Evt) : ((evC x).all (·.oneCell')) = true := rfl
theorem evClone (A : Option Addr) (es : List Evt) (cap : Nat) (w0 : World) (hz : RowsAt 9 evC w0 A es) (hl : es.length ≤ 1000) (hA : A = none → cap = 0) :
    Calls Try.prog 34 #[.slice A es.length cap] w0 fun e w' => ∃ (A' : Option Addr) (c : Nat) (Lo : List Blk), e = .returned (.slice A' es.length c) ∧ OwnS A' c es.length (es.flatMap evC) 56 9 Lo ∧ SH w0 [] w' Lo := by
  have H := SH.refl w0
  have hn : A = none → es = [] := fun h => by
    cases es with
    | nil => rfl
    | cons x l => obtain ⟨b, o, e, _⟩ := hz 0 (by simp); rw [h] at e; cases e
  refine Calls.ofWP Try.func34 rfl Try.results34 Try.ntmps34 rfl ?_
  refine WP.seq ?_
  refine WP.region ?_
  refine OPS.val rfl rfl rfl (Ev.asS rfl) ?_
  refine OPS.nil ?_
  refine WP.seq ?_
  refine WP.seq ?_
  refine WP.region ?_
  refine OPS.val rfl rfl rfl (Ev.mvS rfl) ?_
  refine OPS.val rfl rfl rfl (Ev.eqlSn Try.runUnderlying25 rfl rfl) ?_
  refine OPS.nil ?_
  refine WP.cond rfl (fun hc1 => ?_) (fun hc1 => ?_)
  · refine WP.seq ?_
    refine WP.region ?_
    refine OPS.val rfl rfl rfl (Ev.asS rfl) ?_
    refine OPS.nil ?_
    refine WP.ret ⟨_, rfl, ?_⟩
    have h : A = none := by simpa using hc1
    obtain rfl := hn h
    obtain rfl := hA h
    exact ⟨none, 0, [], rfl, OwnS.nil, H⟩
  refine WP.skip ?_
  refine WP.seq ?_
  refine WP.region ?_
  refine OPS.buildSlice rfl rfl rfl rfl (bsl_25_0_ (e := fun _ => .int .i64 0)) H ?_
  clear H; intro g5 w H
  refine OPS.val rfl rfl rfl (Ev.mvS rfl) ?_
  refine OPS.appendE (m := es.length) (news := es.flatMap evC) (R := []) rfl rfl rfl rfl rfl (sl_run rfl) rfl rfl OwnS.mt (by rw [rows_length (sz := 9) (fun _ => rfl)]) (rowsFrom (fun _ => rfl) (hz.sh H)) (rowsOne evOne es) (by omega) (by unfold maxLen; omega) H (List.Perm.refl _) ?_
  clear H; intro A' c Lo w hO H
  refine OPS.val rfl rfl rfl (Ev.asS rfl) ?_
  refine OPS.nil ?_
  refine WP.ret ⟨_, rfl, ?_⟩
  rw [Nat.zero_add] at hO
  exact ⟨A', c, Lo, by rw [Nat.zero_add]; rfl, by simpa using hO, by simpa using H⟩
theorem evNumber (x : Evt) (w0 : World) : Calls Try.prog 41 #[.agg (evC x).toArray] w0 fun e w' => e = .returned (.agg #[I x.d, I x.s]) ∧ Below w0.heap.size w0 w' := by
  have H := SH.refl w0
  unfold evC
  refine Calls.ofWPc Try.func41 rfl Try.results41 Try.ntmps41 rfl ?_
  refine WP.seq ?_
  refine WP.region ?_
  refine OPS.box rfl rfl rfl rfl (cA rfl) H ?_
  clear H; intro g1 w H
  refine OPS.alloc rfl rfl rfl rfl (zero_run rfl) rfl H ?_
  clear H; intro g2 w H
  refine OPS.nil ?_
  refine WP.seq ?_
  refine WP.region ?_
  refine OPS.val rfl rfl rfl (Ev.fieldAddr (fld_run rfl) rfl) ?_
  refine OPS.val rfl rfl rfl (Ev.load1 (agg_run rfl) rfl (by first | exact H.ldL 0 rfl _ rfl | exact H.ldL 1 rfl _ rfl | exact H.ldL 2 rfl _ rfl | exact H.ldL 3 rfl _ rfl | exact H.ldL 4 rfl _ rfl | exact H.ldL 5 rfl _ rfl | exact H.ldL 6 rfl _ rfl | exact H.ldL 7 rfl _ rfl | exact H.ld0 (by assumption) | assumption | exact H.ldS (by assumption) (by assumption))) ?_
  refine OPS.val rfl rfl rfl (Ev.fieldAddr (fld_run rfl) rfl) ?_
  refine OPS.val rfl rfl rfl (Ev.load1 (agg_run rfl) rfl (by first | exact H.ldL 0 rfl _ rfl | exact H.ldL 1 rfl _ rfl | exact H.ldL 2 rfl _ rfl | exact H.ldL 3 rfl _ rfl | exact H.ldL 4 rfl _ rfl | exact H.ldL 5 rfl _ rfl | exact H.ldL 6 rfl _ rfl | exact H.ldL 7 rfl _ rfl | exact H.ld0 (by assumption) | assumption | exact H.ldS (by assumption) (by assumption))) ?_
  refine OPS.val rfl rfl rfl (Ev.build (bld_93_0_1 rfl rfl)) ?_
  first | refine OPS.store 0 _ rfl rfl rfl (size_run rfl) rfl (cA rfl) rfl rfl H rfl (by simp) ?_ | refine OPS.store 1 _ rfl rfl rfl (size_run rfl) rfl (cA rfl) rfl rfl H rfl (by simp) ?_ | refine OPS.store 2 _ rfl rfl rfl (size_run rfl) rfl (cA rfl) rfl rfl H rfl (by simp) ?_ | refine OPS.store 3 _ rfl rfl rfl (size_run rfl) rfl (cA rfl) rfl rfl H rfl (by simp) ?_ | refine OPS.store 4 _ rfl rfl rfl (size_run rfl) rfl (cA rfl) rfl rfl H rfl (by simp) ?_ | refine OPS.store 5 _ rfl rfl rfl (size_run rfl) rfl (cA rfl) rfl rfl H rfl (by simp) ?_ | refine OPS.store 6 _ rfl rfl rfl (size_run rfl) rfl (cA rfl) rfl rfl H rfl (by simp) ?_ | refine OPS.store 7 _ rfl rfl rfl (size_run rfl) rfl (cA rfl) rfl rfl H rfl (by simp) ?_ | refine OPS.store 8 _ rfl rfl rfl (size_run rfl) rfl (cA rfl) rfl rfl H rfl (by simp) ?_
  clear H; intro w H; try simp only [List.set_cons_zero, List.set_cons_succ, putL, Nat.zero_add] at H
  refine OPS.nil ?_
  refine WP.ret ⟨[_], ⟨(by first | exact resCellA 0 H rfl (agg_run rfl) (size_run rfl) (by first | assumption | rfl) rfl | exact resCellA 1 H rfl (agg_run rfl) (size_run rfl) (by first | assumption | rfl) rfl | exact resCellA 2 H rfl (agg_run rfl) (size_run rfl) (by first | assumption | rfl) rfl | exact resCellA 3 H rfl (agg_run rfl) (size_run rfl) (by first | assumption | rfl) rfl | exact resCellA 4 H rfl (agg_run rfl) (size_run rfl) (by first | assumption | rfl) rfl | exact resCellA 5 H rfl (agg_run rfl) (size_run rfl) (by first | assumption | rfl) rfl | exact resCellA 6 H rfl (agg_run rfl) (size_run rfl) (by first | assumption | rfl) rfl), trivial⟩, ?_⟩
  exact ⟨rfl, H.below⟩
end Go.Proofs.Ytchjbjplddhknaa

/-
  Walks: the closure of CompactFunc, CompactFunc where all numbers differ.
-/
set_option linter.all false
namespace Go.Proofs.Ytchjbjplddhknaa
open Go Go.W Go.RowKit

theorem intEq (d : Nat) (a b : Int) (w : World) : (Op.equalIn (d + 1) 3 (I a) (I b)).run Try.prog w = .ok (a == b) w := by
  rw [Op.equalIn]
  simp only [Sem.run_bind, Try.runUnderlying3, Result.andThen_ok]
  simp [Sem.run_pure]
theorem prog_run (w : World) : (program).run Try.prog w = .ok Try.prog w := rfl
theorem eqG93 : Try.prog.eqGuardType Try.prog.depth 93 = false := by kernel_rfl
theorem eqS93 (a b c d : Int) : ∀ w, (Op.equal 93 (.agg #[I a, I b]) (.agg #[I c, I d])).run Try.prog w = .ok (decide (a = c) && decide (b = d)) w := by
  intro w
  have hs : Try.prog.stoodInHeld 93 = false := by kernel_rfl
  unfold Op.equal Op.maxDepth
  rw [Op.equalIn]
  simp only [Sem.run_bind, Try.runUnderlying93, Result.andThen_ok, prog_run, hs]
  simp [part, Try.isAgg3, Sem.run_bind, Sem.run_pure, intEq]
  by_cases h1 : a = c <;> by_cases h2 : b = d <;> simp [h1, h2]
def sameNum (x y : Evt) : Bool := decide (x.d = y.d) && decide (x.s = y.s)
theorem setSame (x y : Evt) (w0 : World) : Calls Try.prog 40 #[.agg (evC x).toArray, .agg (evC y).toArray] w0 fun e w' => e = .returned (.bool (sameNum x y)) ∧ Below w0.heap.size w0 w' := by
  have H := SH.refl w0
  unfold evC
  refine Calls.ofWP Try.func40 rfl Try.results40 Try.ntmps40 rfl ?_
  refine WP.seq ?_
  refine WP.region ?_
  refine OPS.box rfl rfl rfl rfl (cA rfl) H ?_
  clear H; intro g2 w H
  refine OPS.box rfl rfl rfl rfl (cA rfl) H ?_
  clear H; intro g3 w H
  refine OPS.val rfl rfl rfl (Ev.asB rfl) ?_
  refine OPS.nil ?_
  refine WP.seq ?_
  refine WP.rquiet mixed (by kernel_rfl) H ?_
  clear H; intro w hbw1 H
  refine OPS.val rfl rfl rfl ((by first | exact Ev.loadO 0 H rfl (agg_run rfl) (size_run rfl) (by first | assumption | rfl) rfl | exact Ev.loadO 1 H rfl (agg_run rfl) (size_run rfl) (by first | assumption | rfl) rfl | exact Ev.loadO 2 H rfl (agg_run rfl) (size_run rfl) (by first | assumption | rfl) rfl | exact Ev.loadO 3 H rfl (agg_run rfl) (size_run rfl) (by first | assumption | rfl) rfl | exact Ev.loadO 4 H rfl (agg_run rfl) (size_run rfl) (by first | assumption | rfl) rfl | exact Ev.loadO 5 H rfl (agg_run rfl) (size_run rfl) (by first | assumption | rfl) rfl | exact Ev.loadO 6 H rfl (agg_run rfl) (size_run rfl) (by first | assumption | rfl) rfl | (change Ev _ _ _ _ (Op.load 56 (Operand.tmp 2)) _; fail))) ?_
  refine OPS.callq rfl rfl rfl (EvC.func (fun_run rfl)) (fun w2 hb2 => evNumber x _) ?_
  refine OPS.val rfl rfl rfl ((by first | exact Ev.loadO 0 H rfl (agg_run rfl) (size_run rfl) (by first | assumption | rfl) rfl | exact Ev.loadO 1 H rfl (agg_run rfl) (size_run rfl) (by first | assumption | rfl) rfl | exact Ev.loadO 2 H rfl (agg_run rfl) (size_run rfl) (by first | assumption | rfl) rfl | exact Ev.loadO 3 H rfl (agg_run rfl) (size_run rfl) (by first | assumption | rfl) rfl | exact Ev.loadO 4 H rfl (agg_run rfl) (size_run rfl) (by first | assumption | rfl) rfl | exact Ev.loadO 5 H rfl (agg_run rfl) (size_run rfl) (by first | assumption | rfl) rfl | exact Ev.loadO 6 H rfl (agg_run rfl) (size_run rfl) (by first | assumption | rfl) rfl | (change Ev _ _ _ _ (Op.load 56 (Operand.tmp 3)) _; fail))) ?_
  refine OPS.callq rfl rfl rfl (EvC.func (fun_run rfl)) (fun w2 hb2 => evNumber y _) ?_
  refine OPS.val rfl rfl rfl (Ev.eqlA eqG93 (eqS93 _ _ _ _) rfl rfl) ?_
  refine OPS.val rfl rfl rfl (Ev.asB rfl) ?_
  refine OPS.nilq H ?_
  clear H; intro w hbx1 H
  refine WP.ret ⟨_, rfl, ?_⟩
  exact ⟨rfl, H.below⟩
theorem evCompact (A : Option Addr) (es : List Evt) (cap : Nat) (w0 : World) (hz : RowsAt 9 evC w0 A es) (hl : es.length ≤ 1000) (hne : ∀ i, ∀ h : i + 1 < es.length, sameNum es[i + 1] es[i] = false) :
    Calls Try.prog 39 #[.slice A es.length cap, .func (.func 40) #[] #[]] w0 fun e w' => e = .returned (.slice A es.length cap) ∧ Below w0.heap.size w0 w' := by
  have H := SH.refl w0
  refine Calls.ofWP Try.func39 rfl Try.results39 Try.ntmps39 rfl ?_
  refine WP.seq ?_
  refine WP.region ?_
  refine OPS.val rfl rfl rfl (Ev.asS rfl) ?_
  refine OPS.nil ?_
  refine WP.seq ?_
  refine WP.seq ?_
  refine WP.region ?_
  refine OPS.val rfl rfl rfl (Ev.mvS rfl) ?_
  refine OPS.val rfl rfl rfl (Ev.len (el_run rfl) rfl) ?_
  refine OPS.val rfl rfl rfl (Ev.lss rfl rfl) ?_
  refine OPS.nil ?_
  refine WP.cond rfl (fun hc1 => ?_) (fun hc1 => ?_)
  · refine WP.seq ?_
    refine WP.region ?_
    refine OPS.val rfl rfl rfl (Ev.mvS rfl) ?_
    refine OPS.val rfl rfl rfl (Ev.asS rfl) ?_
    refine OPS.nil ?_
    refine WP.ret ⟨_, rfl, ?_⟩
    exact ⟨rfl, H.below⟩
  have h2 : 2 ≤ es.length := by have h := of_decide_eq_false hc1; omega
  refine WP.skip ?_
  refine WP.seq ?_
  refine WP.seq ?_
  refine WP.region ?_
  refine OPS.val rfl rfl rfl (Ev.asI rfl) ?_
  refine OPS.nil ?_
  refine WP.block ?_
  refine WP.loop [4, 5, 6, 7, 12, 13, 14, 15, 16, 17, 18, 19, 20, 21, 22, 23, 24, 25, 26, 27, 28, 29, 30, 31, 32, 33, 34, 35, 36, 37, 38, 39, 40, 41, 42, 43, 44, 45, 46, 47, 48, 49, 50, 51, 52, 53, 54, 55, 56, 57, 58, 59, 60, 61, 62, 63, 64] (fun k e w' => ∃ (j : Nat), 1 ≤ j ∧ j + k = es.length ∧ e 5 = I j ∧ SH w0 [] w' []) (es.length - 1) (⟨1, by omega, by omega, rfl, H⟩) ?_
  clear H
  rintro k u w ⟨j, hj1, hk, h5, H⟩
  refine WP.know (t := 5) h5 ?_
  refine WP.seq ?_
  refine WP.seq ?_
  refine WP.region ?_
  refine OPS.val rfl rfl rfl (Ev.mvI rfl) ?_
  refine OPS.val rfl rfl rfl (Ev.mvS rfl) ?_
  refine OPS.val rfl rfl rfl (Ev.len (el_run rfl) rfl) ?_
  refine OPS.val rfl rfl rfl (Ev.lss rfl rfl) ?_
  refine OPS.nil ?_
  refine WP.cond rfl (fun hc4 => ?_) (fun hc4 => ?_)
  · have hlt : j < es.length := by have h := of_decide_eq_true hc4; omega
    obtain ⟨i, rfl⟩ : ∃ i, j = i + 1 := ⟨j - 1, by omega⟩
    obtain ⟨b, o, rfl, hx⟩ := hz (i + 1) hlt
    obtain ⟨b', o', hbo, hy⟩ := hz i (by omega)
    cases hbo
    refine WP.skip ?_
    refine WP.seq ?_
    refine WP.block ?_
    refine WP.seq ?_
    refine WP.rquiet mixed (by kernel_rfl) H ?_
    clear H; intro w hbw6 H
    refine OPS.val rfl rfl rfl (Ev.mvF rfl) ?_
    refine OPS.val rfl rfl rfl (Ev.mvS rfl) ?_
    refine OPS.val rfl rfl rfl (Ev.mvI rfl) ?_
    refine OPS.val rfl rfl rfl (Ev.indexAddr (j := i + 1) (el_run rfl) (size_run rfl) rfl rfl rfl hlt) ?_
    refine OPS.val rfl rfl rfl (Ev.loadN (evC es[i + 1]) (agg_run rfl) (size_run rfl) rfl (cellsAt_sh H hx)) ?_
    refine OPS.val rfl rfl rfl (Ev.mvS rfl) ?_
    refine OPS.val rfl rfl rfl (Ev.mvI rfl) ?_
    refine OPS.val rfl rfl rfl (Ev.sub rfl rfl (by unfold fits; omega)) ?_
    refine OPS.val rfl rfl rfl (Ev.indexAddr (j := i) (el_run rfl) (size_run rfl) rfl rfl (by omega) (by omega)) ?_
    refine OPS.val rfl rfl rfl (Ev.loadN (evC es[i]) (agg_run rfl) (size_run rfl) rfl (cellsAt_sh H hy)) ?_
    refine OPS.callq rfl rfl rfl (EvC.clos rfl (fun_run (by first | rfl | assumption))) (fun w2 hb2 => by show Calls Try.prog 40 #[.agg (evC es[i + 1]).toArray, .agg (evC es[i]).toArray] w2 _; exact setSame _ _ w2) ?_
    refine OPS.nilq H ?_
    clear H; intro w hbx6 H
    refine WP.cond rfl (fun hc6 => ?_) (fun hc6 => ?_)
    · refine WP.seq ?_
      rw [hne i hlt] at hc6; cases hc6
    refine WP.skip ?_
    refine WP.region ?_
    refine OPS.val rfl rfl rfl (Ev.mvI rfl) ?_
    refine OPS.val rfl rfl rfl (Ev.add rfl rfl (by unfold fits; omega)) ?_
    refine OPS.val rfl rfl rfl (Ev.asI rfl) ?_
    refine OPS.nil ?_
    exact ⟨(by repeat (first | exact Agree.refl _ _ | exact Agree.mix _ _ _ | refine Agree.upd rfl ?_ | refine Agree.mix2 rfl ?_)), k - 1, by omega, i + 1 + 1, by omega, by omega, rfl, H⟩
  refine WP.exit ?_
  refine XB.hit ?_
  refine WP.seq ?_
  refine WP.region ?_
  refine OPS.val rfl rfl rfl (Ev.mvS rfl) ?_
  refine OPS.val rfl rfl rfl (Ev.asS rfl) ?_
  refine OPS.nil ?_
  refine WP.ret ⟨_, rfl, ?_⟩
  exact ⟨rfl, H.below⟩
end Go.Proofs.Ytchjbjplddhknaa

/-
  Where the bicycles are, as a plain state; how a state lies in a world; count, parked, check$1.
-/
set_option linter.all false
namespace Go.Proofs.Ytchjbjplddhknaa
open Go Go.W Go.RowKit

/-- a spot; who: the rider of the ride in which the bicycle is -/
structure Spt where
  wh : Int
  pl : Int
  ri : Int
  pa : Bool
  who : Int
deriving DecidableEq, Inhabited
def spC (s : Spt) : List Value := [I s.wh, I s.pl, I s.ri, .bool s.pa]
theorem spC_len (s : Spt) : (spC s).length = 4 := rfl
structure Sta where
  sp : List Spt
  us : List Int
/-- where a state lies -/
structure Loc where
  f : Flt
  A : Option Addr
  ca : Nat
  B : Option Addr
  cb : Nat
  gS : Nat
  gP : Nat
  gO : Nat
  gU : Nat
  g0 : Nat
def Loc.cs (l : Loc) (n : Nat) : List Value := [I l.f.bk, I l.f.rd, I l.f.dv, .slice l.A l.f.ds.length l.ca, .slice l.B l.f.ts.length l.cb, .slice (some ⟨l.gP, 0, none⟩) n n, .map (some l.gO), .map (some l.gU)]
structure Rep (w : World) (l : Loc) (σ : Sta) (tg : Nat → Nat) : Prop where
  fl : FlAt w l.f l.A l.B
  st : w.heap[l.gS]? = some (.cells (l.cs σ.sp.length).toArray 70 (0, 0))
  sp : w.heap[l.gP]? = some (.cells (σ.sp.flatMap spC).toArray 42 (0, 0))
  op : ∃ m, MapAt Try.prog 3 w l.gO m ∧ ∀ p, p ∈ m ↔ ∃ b, ∃ h : b < σ.sp.length, σ.sp[b].wh = 3 ∧ p = (I σ.sp[b].ri, .pointer (some ⟨tg b, 0, none⟩))
  us : ∃ m, MapAt Try.prog 3 w l.gU m ∧ ∀ p, p ∈ m ↔ ∃ i ∈ σ.us, p = (I i, .bool true)
  tr : ∀ b, ∀ h : b < σ.sp.length, σ.sp[b].wh = 3 → w.heap[tg b]? = some (.cells #[I σ.sp[b].who, I b, .bool σ.sp[b].pa] 104 (0, 0))
  len : (σ.sp.length : Int) = l.f.bk
  small : σ.sp.length ≤ 128
  low : ∀ b o, (l.A = some ⟨b, o, none⟩ ∧ l.f.ds ≠ [] ∨ l.B = some ⟨b, o, none⟩ ∧ l.f.ts ≠ []) → b < l.g0
  nOU : l.gO ≠ l.gU
  fr : l.g0 ≤ l.gS ∧ l.g0 ≤ l.gP ∧ l.g0 ≤ l.gO ∧ l.g0 ≤ l.gU ∧ ∀ b, ∀ h : b < σ.sp.length, σ.sp[b].wh = 3 → l.g0 ≤ tg b
theorem cell_heap {w : World} {g k : Nat} {cs : Array Value} {T : TypeId} {v : Value} (h : w.heap[g]? = some (.cells cs T (0, 0))) (hk : cs[k]? = some v) : w.cell? ⟨g, k, none⟩ = some v := by
  unfold World.cell?
  simp [h, hk]
section
variable {w w' w0 : World} {l : Loc} {σ : Sta} {tg : Nat → Nat} {L : List Blk}
theorem Rep.cell (h : Rep w l σ tg) {k : Nat} {v : Value} (hk : (l.cs σ.sp.length)[k]? = some v) : w.cell? ⟨l.gS, k, none⟩ = some v := cell_heap h.st (by simpa using hk)
theorem SH.ofs {L : List Blk} (h : ∀ b ∈ L, w.heap[b.g]? = some (.cells b.cs.toArray b.T (0, 0))) (hn : (L.map (·.g)).Nodup) : SH w (L.map (·.g)) w L :=
  ⟨rfl, rfl, rfl, Nat.le_refl _, fun _ _ _ => rfl, h, fun b hb => .inr (List.mem_map_of_mem hb), hn⟩
theorem SH.of1 {g : Nat} {T : TypeId} {cs : List Value} (h : w.heap[g]? = some (.cells cs.toArray T (0, 0))) : SH w [g] w [⟨g, T, cs⟩] := SH.ofs (L := [⟨g, T, cs⟩]) (by simpa using h) (by simp)
theorem Rep.rows (h : Rep w l σ tg) : RowsAt 4 spC w (some ⟨l.gP, 0, none⟩) σ.sp := rowsOwn' (enc := spC) (sz := 4) (fun _ => rfl) (SH.of1 h.sp) 0 rfl
end
def prk (s : Spt) : Bool := decide (s.wh = 1) || decide (s.wh = 2)
theorem parked (s : Spt) (w0 : World) : Calls Try.prog 48 #[.agg (spC s).toArray] w0 fun e w' => e = .returned (.bool (prk s)) ∧ Below w0.heap.size w0 w' := by
  have H := SH.refl w0
  unfold spC
  refine Calls.ofWP Try.func48 rfl Try.results48 Try.ntmps48 rfl ?_
  refine WP.seq ?_
  refine WP.region ?_
  refine OPS.box rfl rfl rfl rfl (cA rfl) H ?_
  clear H; intro g1 w H
  refine OPS.val rfl rfl rfl (Ev.asB rfl) ?_
  refine OPS.nil ?_
  refine WP.seq ?_
  refine WP.region ?_
  refine OPS.val rfl rfl rfl (Ev.fieldAddr (fld_run rfl) rfl) ?_
  refine OPS.val rfl rfl rfl (Ev.load1 (agg_run rfl) rfl (by first | exact H.ldL 0 rfl _ rfl | exact H.ldL 1 rfl _ rfl | exact H.ldL 2 rfl _ rfl | exact H.ldL 3 rfl _ rfl | exact H.ldL 4 rfl _ rfl | exact H.ldL 5 rfl _ rfl | exact H.ldL 6 rfl _ rfl | exact H.ldL 7 rfl _ rfl | exact H.ld0 (by assumption) | assumption | exact H.ldS (by assumption) (by assumption))) ?_
  refine OPS.val rfl rfl rfl (Ev.eql rfl rfl) ?_
  refine OPS.val rfl rfl rfl (Ev.mvB rfl) ?_
  refine OPS.gval rfl rfl rfl rfl rfl (fun hg => Ev.fieldAddr (fld_run rfl) (by first | rfl | exact gvE hg rfl)) ?_
  refine OPS.gval rfl rfl rfl rfl rfl (fun hg => Ev.load1 (agg_run rfl) (by first | rfl | exact gvE hg rfl) (by first | exact H.ldL 0 rfl _ rfl | exact H.ldL 1 rfl _ rfl | exact H.ldL 2 rfl _ rfl | exact H.ldL 3 rfl _ rfl | exact H.ldL 4 rfl _ rfl | exact H.ldL 5 rfl _ rfl | exact H.ldL 6 rfl _ rfl | exact H.ldL 7 rfl _ rfl | exact H.ld0 (by assumption) | assumption | exact H.ldS (by assumption) (by assumption))) ?_
  refine OPS.gval rfl rfl rfl rfl rfl (fun hg => Ev.eql (by first | rfl | exact gvE hg rfl) (by first | rfl | exact gvE hg rfl)) ?_
  refine OPS.val rfl rfl rfl ((by first | exact Ev.pickOr rfl rfl rfl | exact Ev.pickAnd rfl rfl rfl)) ?_
  refine OPS.val rfl rfl rfl (Ev.asB rfl) ?_
  refine OPS.nil ?_
  refine WP.ret ⟨_, rfl, ?_⟩
  exact ⟨rfl, H.below⟩
theorem refused (b : Bool) (n : Int) (w0 : World) : Calls Try.prog 47 #[.bool b, I n] w0 fun e w' => e = .returned (I (if b = true then n else 0)) ∧ Below w0.heap.size w0 w' := by
  have H := SH.refl w0
  refine Calls.ofWP Try.func47 rfl Try.results47 Try.ntmps47 rfl ?_
  refine WP.seq ?_
  refine WP.region ?_
  refine OPS.val rfl rfl rfl (Ev.asI rfl) ?_
  refine OPS.nil ?_
  refine WP.seq ?_
  refine WP.seq ?_
  refine WP.region ?_
  refine OPS.val rfl rfl rfl (Ev.mvB rfl) ?_
  refine OPS.nil ?_
  refine WP.cond rfl (fun hc1 => ?_) (fun hc1 => ?_)
  · refine WP.seq ?_
    refine WP.region ?_
    refine OPS.val rfl rfl rfl (Ev.mvI rfl) ?_
    refine OPS.val rfl rfl rfl (Ev.asI rfl) ?_
    refine OPS.nil ?_
    refine WP.ret ⟨_, rfl, ?_⟩
    exact ⟨by rw [if_pos hc1]; rfl, H.below⟩
  refine WP.skip ?_
  refine WP.seq ?_
  refine WP.region ?_
  refine OPS.val rfl rfl rfl (Ev.asI rfl) ?_
  refine OPS.nil ?_
  refine WP.ret ⟨_, rfl, ?_⟩
  exact ⟨by rw [if_neg (by simpa using hc1)]; rfl, H.below⟩
def cntP (wh pl : Int) (l : List Spt) : Nat := l.countP fun s => decide (s.wh = wh) && decide (s.pl = pl)
theorem cntP_succ {wh pl : Int} {l : List Spt} {j : Nat} (h : j < l.length) : cntP wh pl (l.take (j + 1)) = cntP wh pl (l.take j) + (if (decide (l[j].wh = wh) && decide (l[j].pl = pl)) = true then 1 else 0) := by
  rw [cntP, List.take_succ_eq_append_getElem h, List.countP_append]
  simp [List.countP_cons]
  rfl
theorem countS (l : Loc) (σ : Sta) (tg : Nat → Nat) (wh pl : Int) (w0 : World) (h : Rep w0 l σ tg) :
    Calls Try.prog 49 #[.pointer (some ⟨l.gS, 0, none⟩), I wh, I pl] w0 fun e w' => e = .returned (I (cntP wh pl σ.sp)) ∧ Below w0.heap.size w0 w' := by
  have H := SH.refl w0
  have hP := h.cell (k := 5) rfl
  have hz := h.rows
  have hs := h.small
  refine Calls.ofWP Try.func49 rfl Try.results49 Try.ntmps49 rfl ?_
  refine WP.seq ?_
  refine WP.region ?_
  refine OPS.val rfl rfl rfl (Ev.asI rfl) ?_
  refine OPS.nil ?_
  refine WP.seq ?_
  refine WP.region ?_
  refine OPS.val rfl rfl rfl (Ev.asI rfl) ?_
  refine OPS.nil ?_
  refine WP.seq ?_
  refine WP.seq ?_
  refine WP.region ?_
  refine OPS.val rfl rfl rfl (Ev.mvP rfl) ?_
  refine OPS.val rfl rfl rfl ((by first | exact Ev.nilCheckP rfl | exact Ev.nilCheckF rfl)) ?_
  refine OPS.val rfl rfl rfl (Ev.fieldAddr (fld_run rfl) rfl) ?_
  refine OPS.val rfl rfl rfl (Ev.load1 (agg_run rfl) rfl (by first | exact H.ldL 0 rfl _ rfl | exact H.ldL 1 rfl _ rfl | exact H.ldL 2 rfl _ rfl | exact H.ldL 3 rfl _ rfl | exact H.ldL 4 rfl _ rfl | exact H.ldL 5 rfl _ rfl | exact H.ldL 6 rfl _ rfl | exact H.ldL 7 rfl _ rfl | exact H.ld0 (by assumption) | assumption | exact H.ldS (by assumption) (by assumption))) ?_
  refine OPS.val rfl rfl rfl (Ev.len (el_run rfl) rfl) ?_
  refine OPS.val rfl rfl rfl (Ev.mvI rfl) ?_
  refine OPS.nil ?_
  refine WP.block ?_
  refine WP.loop [7, 9, 15, 16, 17, 18, 19, 20, 21, 22, 23, 24, 25, 26, 27, 28, 29, 30, 31] (fun k e w' => ∃ (j : Nat), j + k = σ.sp.length ∧ e 15 = I j ∧ e 7 = I (cntP wh pl (σ.sp.take j)) ∧ SH w0 [] w' []) (σ.sp.length) (⟨0, by omega, rfl, rfl, H⟩) ?_
  clear H
  rintro k u w ⟨j, hk, h15, h7, H⟩
  refine WP.know (t := 15) h15 ?_
  refine WP.know (t := 7) h7 ?_
  refine WP.seq ?_
  refine WP.region ?_
  refine OPS.val rfl rfl rfl (Ev.lss rfl rfl) ?_
  refine OPS.nil ?_
  refine WP.seq ?_
  refine WP.cond rfl (fun hc3 => ?_) (fun hc3 => ?_)
  · have hlt : j < σ.sp.length := by simpa using hc3
    obtain ⟨b, o, hbo, hx⟩ := hz j hlt
    cases hbo
    refine WP.skip ?_
    refine WP.seq ?_
    refine WP.block ?_
    refine WP.seq ?_
    refine WP.region ?_
    refine OPS.val rfl rfl rfl ((by first | exact Ev.indexAddr1 (el_run rfl) (size_run rfl) rfl rfl rfl (by omega) | exact Ev.indexAddr (el_run rfl) (size_run rfl) rfl rfl rfl (by omega))) ?_
    refine OPS.val rfl rfl rfl ((by first | exact Ev.loadO 0 H rfl (agg_run rfl) (size_run rfl) (by first | assumption | rfl) rfl | exact Ev.loadO 1 H rfl (agg_run rfl) (size_run rfl) (by first | assumption | rfl) rfl | exact Ev.loadO 2 H rfl (agg_run rfl) (size_run rfl) (by first | assumption | rfl) rfl | exact Ev.loadO 3 H rfl (agg_run rfl) (size_run rfl) (by first | assumption | rfl) rfl | exact Ev.loadO 4 H rfl (agg_run rfl) (size_run rfl) (by first | assumption | rfl) rfl | exact Ev.loadO 5 H rfl (agg_run rfl) (size_run rfl) (by first | assumption | rfl) rfl | exact Ev.loadO 6 H rfl (agg_run rfl) (size_run rfl) (by first | assumption | rfl) rfl | (change Ev _ _ _ _ (Op.load 42 (Operand.tmp 17)) _; exact Ev.loadN (spC σ.sp[j]) (agg_run rfl) (size_run rfl) rfl (cellsAt_sh H hx)))) ?_
    refine OPS.alloc rfl rfl rfl rfl (zero_run rfl) rfl H ?_
    clear H; intro g9 w H
    first | refine OPS.store 0 _ rfl rfl rfl (size_run rfl) rfl (cA rfl) rfl rfl H rfl (by simp) ?_ | refine OPS.store 1 _ rfl rfl rfl (size_run rfl) rfl (cA rfl) rfl rfl H rfl (by simp) ?_ | refine OPS.store 2 _ rfl rfl rfl (size_run rfl) rfl (cA rfl) rfl rfl H rfl (by simp) ?_ | refine OPS.store 3 _ rfl rfl rfl (size_run rfl) rfl (cA rfl) rfl rfl H rfl (by simp) ?_ | refine OPS.store 4 _ rfl rfl rfl (size_run rfl) rfl (cA rfl) rfl rfl H rfl (by simp) ?_ | refine OPS.store 5 _ rfl rfl rfl (size_run rfl) rfl (cA rfl) rfl rfl H rfl (by simp) ?_ | refine OPS.store 6 _ rfl rfl rfl (size_run rfl) rfl (cA rfl) rfl rfl H rfl (by simp) ?_ | refine OPS.store 7 _ rfl rfl rfl (size_run rfl) rfl (cA rfl) rfl rfl H rfl (by simp) ?_ | refine OPS.store 8 _ rfl rfl rfl (size_run rfl) rfl (cA rfl) rfl rfl H rfl (by simp) ?_
    clear H; intro w H; try simp only [List.set_cons_zero, List.set_cons_succ, putL, Nat.zero_add] at H
    refine OPS.nil ?_
    replace H : SH w0 [] w [⟨g9, 42, spC σ.sp[j]⟩] := H
    refine WP.seq ?_
    refine WP.region ?_
    refine OPS.val rfl rfl rfl (Ev.fieldAddr (fld_run rfl) rfl) ?_
    refine OPS.val rfl rfl rfl (Ev.load1 (agg_run rfl) rfl (by first | exact H.ldL 0 rfl _ rfl | exact H.ldL 1 rfl _ rfl | exact H.ldL 2 rfl _ rfl | exact H.ldL 3 rfl _ rfl | exact H.ldL 4 rfl _ rfl | exact H.ldL 5 rfl _ rfl | exact H.ldL 6 rfl _ rfl | exact H.ldL 7 rfl _ rfl | exact H.ld0 (by assumption) | assumption | exact H.ldS (by assumption) (by assumption))) ?_
    refine OPS.val rfl rfl rfl (Ev.mvI rfl) ?_
    refine OPS.val rfl rfl rfl (Ev.eql rfl rfl) ?_
    refine OPS.val rfl rfl rfl (Ev.mvB rfl) ?_
    refine OPS.gval rfl rfl rfl rfl rfl (fun hg => Ev.fieldAddr (fld_run rfl) (by first | rfl | exact gvE hg rfl)) ?_
    refine OPS.gval rfl rfl rfl rfl rfl (fun hg => Ev.load1 (agg_run rfl) (by first | rfl | exact gvE hg rfl) (by first | exact H.ldL 0 rfl _ rfl | exact H.ldL 1 rfl _ rfl | exact H.ldL 2 rfl _ rfl | exact H.ldL 3 rfl _ rfl | exact H.ldL 4 rfl _ rfl | exact H.ldL 5 rfl _ rfl | exact H.ldL 6 rfl _ rfl | exact H.ldL 7 rfl _ rfl | exact H.ld0 (by assumption) | assumption | exact H.ldS (by assumption) (by assumption))) ?_
    refine OPS.gval rfl rfl rfl rfl rfl (fun hg => Ev.mvI (by first | rfl | exact gvE hg rfl)) ?_
    refine OPS.gval rfl rfl rfl rfl rfl (fun hg => Ev.eql (by first | rfl | exact gvE hg rfl) (by first | rfl | exact gvE hg rfl)) ?_
    refine OPS.val rfl rfl rfl ((by first | exact Ev.pickOr rfl rfl rfl | exact Ev.pickAnd rfl rfl rfl)) ?_
    refine OPS.nil ?_
    refine WP.cond rfl (fun hc5 => ?_) (fun hc5 => ?_)
    · have hy : (decide (σ.sp[j].wh = wh) && decide (σ.sp[j].pl = pl)) = true := hc5
      have hcc : ((cntP wh pl (σ.sp.take j) : Nat) : Int) + 1 = (cntP wh pl (σ.sp.take (j + 1)) : Nat) := by rw [cntP_succ hlt, hy]; simp
      refine WP.region ?_
      refine OPS.val rfl rfl rfl (Ev.mvI rfl) ?_
      have hcn : cntP wh pl (σ.sp.take j) ≤ 128 := Nat.le_trans List.countP_le_length (by simp; omega)
      refine OPS.val rfl rfl rfl (Ev.add rfl rfl (by unfold fits; omega)) ?_
      refine OPS.val rfl rfl rfl (Ev.asI rfl) ?_
      refine OPS.nil ?_
      refine WP.region ?_
      refine OPS.val rfl rfl rfl (Ev.add rfl rfl (by unfold fits; omega)) ?_
      refine OPS.val rfl rfl rfl (Ev.mvI rfl) ?_
      refine OPS.nil ?_
      exact ⟨(by repeat (first | exact Agree.refl _ _ | exact Agree.mix _ _ _ | refine Agree.upd rfl ?_ | refine Agree.mix2 rfl ?_)), k - 1, by omega, j + 1, by omega, rfl, congrArg I hcc, H.drop (List.nil_sublist _)⟩
    have hy : (decide (σ.sp[j].wh = wh) && decide (σ.sp[j].pl = pl)) = false := hc5
    have hcc : ((cntP wh pl (σ.sp.take j) : Nat) : Int) = (cntP wh pl (σ.sp.take (j + 1)) : Nat) := by rw [cntP_succ hlt, hy]; simp
    refine WP.skip ?_
    refine WP.region ?_
    refine OPS.val rfl rfl rfl (Ev.add rfl rfl (by unfold fits; omega)) ?_
    refine OPS.val rfl rfl rfl (Ev.mvI rfl) ?_
    refine OPS.nil ?_
    exact ⟨(by repeat (first | exact Agree.refl _ _ | exact Agree.mix _ _ _ | refine Agree.upd rfl ?_ | refine Agree.mix2 rfl ?_)), k - 1, by omega, j + 1, by omega, rfl, congrArg I hcc, H.drop (List.nil_sublist _)⟩
  refine WP.exit ?_
  refine XB.hit ?_
  refine WP.seq ?_
  refine WP.region ?_
  refine OPS.val rfl rfl rfl (Ev.mvI rfl) ?_
  refine OPS.val rfl rfl rfl (Ev.asI rfl) ?_
  refine OPS.nil ?_
  refine WP.ret ⟨_, rfl, ?_⟩
  have hj : j = σ.sp.length := by simp at hc3; omega
  exact ⟨by rw [hj, List.take_length]; rfl, H.below⟩
end Go.Proofs.Ytchjbjplddhknaa

/-
  Range over a map that the loop does not change: what is left to come, and the entry of the round.
-/
set_option linter.all false
namespace Go.W
open Go.RowKit
open Go.MapKept (Stamped stamped_iff)
open Go.ChangeMaps (setBlock)

/-- block r is an iterator over the map g, which holds m; todo is left to come -/
structure IterAt (P : Program) (k : TypeId) (w : World) (r g : Nat) (m todo : List (Value × Value)) : Prop where
  ex : ∃ (es : Array MapEntry) (clock since c0 : Nat) (seen : Array Nat), w.heap[r]? = some (.mapIter (some g) since seen c0) ∧ w.heap[g]? = some (.map es clock) ∧ Stamped es clock ∧ (∀ x ∈ es.toList, ∃ l, keyOf P k x.key = some l) ∧ es.toList.map (fun x => (x.key, x.val)) = m ∧
    (∀ x ∈ es.toList, x.born < since) ∧ (since ≤ c0 ∧ since ≤ clock) ∧ (leftOf es seen).toList.map (fun x => (x.key, x.val)) = todo
/-- .. and its round is at the entry p -/
structure CurAt (w : World) (r g : Nat) (p : Value × Value) : Prop where
  ex : ∃ (es : Array MapEntry) (clock since : Nat) (seen : Array Nat) (e : MapEntry), w.heap[r]? = some (.mapIter (some g) since (seen.push e.born) clock) ∧ w.heap[g]? = some (.map es clock) ∧ e ∈ es.toList ∧ (es.toList.map (·.born)).Nodup ∧ p = (e.key, e.val)
section
variable {P : Program} {k : TypeId} {w w' w0 : World} {S : List Nat} {L : List Blk} {r g : Nat} {m todo : List (Value × Value)}
theorem IterAt.map (h : IterAt P k w r g m todo) : MapAt P k w g m := by
  obtain ⟨es, cl, _, _, _, _, h2, h3, h4, h5, _⟩ := h.ex
  exact ⟨es, cl, h2, h3, h4, h5⟩
theorem IterAt.lt (h : IterAt P k w r g m todo) : r < w.heap.size := by
  obtain ⟨_, _, _, _, _, h1, _⟩ := h.ex
  exact (Array.getElem?_eq_some_iff.1 h1).1
theorem IterAt.keep (h : IterAt P k w r g m todo) (hr : w'.heap[r]? = w.heap[r]?) (hg : w'.heap[g]? = w.heap[g]?) : IterAt P k w' r g m todo := by
  obtain ⟨es, cl, a, b, c, h1, h2, h3⟩ := h.ex
  exact ⟨es, cl, a, b, c, hr.trans h1, hg.trans h2, h3⟩
theorem IterAt.sh (h : IterAt P k w0 r g m todo) (H : SH w0 S w L) (hr : r ∉ S) (hg : g ∉ S) : IterAt P k w r g m todo := h.keep (H.low r h.lt hr) (H.low g h.map.lt hg)
theorem IterAt.notMem (h : IterAt P k w r g m todo) (H : SH w0 S w L) : r ∉ L.map (·.g) := fun hm => by
  obtain ⟨b, hb, he⟩ := List.mem_map.1 hm
  obtain ⟨_, _, _, _, _, h1, _⟩ := h.ex
  have := H.own b hb
  rw [he, h1] at this; cases this
theorem perm_out {e : MapEntry} : ∀ {L : List MapEntry}, (L.map (·.born)).Nodup → e ∈ L → (e :: L.filter (fun x => !(x.born == e.born))).Perm L
  | [], _, h => by cases h
  | x :: L, hn, h => by
    rw [List.map_cons, List.nodup_cons] at hn
    rcases List.mem_cons.1 h with rfl | hm
    · have h1 : L.filter (fun x => !(x.born == e.born)) = L := by
        rw [List.filter_eq_self]
        intro a ha
        have : a.born ≠ e.born := fun he => hn.1 (he ▸ List.mem_map_of_mem ha)
        simpa using this
      rw [List.filter_cons_of_neg (by simp), h1]
    · have hne : x.born ≠ e.born := fun he => hn.1 (he ▸ List.mem_map_of_mem hm)
      rw [List.filter_cons_of_pos (by simpa using hne)]
      exact (List.Perm.swap _ _ _).trans ((perm_out hn.2 hm).cons x)
theorem left_push (es : Array MapEntry) (seen : Array Nat) (b : Nat) : (leftOf es (seen.push b)).toList = (leftOf es seen).toList.filter fun x => !(x.born == b) := by
  unfold leftOf
  rw [Array.toList_filter, Array.toList_filter, List.filter_filter]
  congr 1
  funext x
  by_cases h : x.born = b <;> by_cases h2 : seen.contains x.born <;> simp_all
theorem IterAt.next (h : IterAt P k w r g m todo) (ty : TypeId) : (todo = [] ∧ (Instr.next (.pointer (some ⟨r, 0, none⟩)) false ty).run P w = .ok (.tuple #[.bool false]) w) ∨
    ∃ p todo' w1 o, (p :: todo').Perm todo ∧ (w1 = w ∨ w1 = w.drew) ∧ (Instr.next (.pointer (some ⟨r, 0, none⟩)) false ty).run P w = .ok (.tuple #[.bool true, p.1, p.2]) (setBlock w1 r o) ∧ IterAt P k (setBlock w1 r o) r g m todo' ∧ CurAt (setBlock w1 r o) r g p := by
  obtain ⟨es, cl, since, c0, seen, hr, hg, h3, h4, h5, h6, h7, rfl⟩ := h.ex
  have hne : g ≠ r := by rintro rfl; rw [hr] at hg; cases hg
  rcases run_next_at (P := P) w ty r g since c0 seen es cl hr hg h6 h7.1 with ⟨h8, h9⟩ | ⟨e, h8, w1, h9, h10⟩
  · refine .inl ⟨?_, h9⟩
    have : leftOf es seen = #[] := Array.eq_empty_of_size_eq_zero h8
    simp [this]
  · have hi : w1.heap[r]? = some (.mapIter (some g) since seen c0) := by rcases h9 with rfl | rfl <;> exact hr
    have hi2 : w1.heap[g]? = some (.map es cl) := by rcases h9 with rfl | rfl <;> exact hg
    have hlt : r < w1.heap.size := (Array.getElem?_eq_some_iff.1 hi).1
    have hset : ∀ o, (setBlock w1 r o).heap[r]? = some o := fun o => by simp [setBlock, hlt]
    have hoth : ∀ o, (setBlock w1 r o).heap[g]? = some (.map es cl) := fun o => (heap_setB w1 r o hne).trans hi2
    have hst := (stamped_iff es cl).1 h3
    have hin : e ∈ es.toList := by
      unfold leftOf at h8
      rw [Array.toList_filter] at h8
      exact (List.mem_filter.1 h8).1
    have hnl : ((leftOf es seen).toList.map (·.born)).Nodup := by
      unfold leftOf
      rw [Array.toList_filter]
      exact (List.filter_sublist.map _).nodup hst.2.1
    refine .inr ⟨(e.key, e.val), (leftOf es (seen.push e.born)).toList.map fun x => (x.key, x.val), w1, _, ?_, h9, h10, ⟨es, cl, since, cl, seen.push e.born, hset _, hoth _, h3, h4, h5, h6, ⟨h7.2, h7.2⟩, rfl⟩, ⟨es, cl, since, seen, e, hset _, hoth _, hin, hst.2.1, rfl⟩⟩
    · rw [left_push]
      exact (perm_out hnl h8).map fun x : MapEntry => (x.key, x.val)
theorem CurAt.keep {p : Value × Value} (h : CurAt w r g p) (hr : w'.heap[r]? = w.heap[r]?) (hg : w'.heap[g]? = w.heap[g]?) : CurAt w' r g p := by
  obtain ⟨es, cl, a, b, c, h1, h2, h3⟩ := h.ex
  exact ⟨es, cl, a, b, c, hr.trans h1, hg.trans h2, h3⟩
theorem CurAt.below {p : Value × Value} (h : CurAt w r g p) (hb : Below w.heap.size w w') : CurAt w' r g p := by
  obtain ⟨es, cl, a, b, c, h1, h2, h3⟩ := h.ex
  exact h.keep (hb.block r (Array.getElem?_eq_some_iff.1 h1).1) (hb.block g (Array.getElem?_eq_some_iff.1 h2).1)
theorem SH.setI (H : SH w0 S w L) (o : Obj) (hg : r ∉ L.map (·.g)) (hm : r ∈ S ∨ w0.heap.size ≤ r) {w1 : World} (h1 : w1 = w ∨ w1 = w.drew) : SH w0 S (setBlock w1 r o) L := by
  rcases h1 with rfl | rfl
  · exact H.setB o hg hm
  · exact SH.setB (w := w.drew) H.drew o hg hm
end
section
variable {P : Program} {N : Nat} {ops : Array Oper} {K : Env → World → Prop} {e : Env} {w w0 : World} {S : List Nat} {L : List Blk} {rest : List Oper} {o : Oper} {k t el ty : TypeId} {r g : Nat} {m todo : List (Value × Value)} {x : Operand} {p : Value × Value}
theorem OPS.rangeMap {d : Nat} (hop : o.op = .range t x) (hg : o.guard = none) (hd : o.dst = some d) (hN : Nat.blt d N = true) (M : MapAt P k w g m) (ht : P.underlying t = some (.map k el)) (hx : ev e x = .map (some g)) (H : SH w0 S w L)
    (h : ∀ w' r, w0.heap.size ≤ r → Below w.heap.size w w' → SH w0 S w' L → IterAt P k w' r g m m → OPS P N .plain ops K rest (upd e d (.pointer (some ⟨r, 0, none⟩))) w') : OPS P N .plain ops K (o :: rest) e w := by
  obtain ⟨es, cl, hb, h2, h3, h4⟩ := M.ex
  have hb' : (w.alloc (.mapIter (some g) cl #[] cl)).heap[g]? = some (.map es cl) := (Below.heap_alloc w _ g M.lt).trans hb
  have hr' : (w.alloc (.mapIter (some g) cl #[] cl)).heap[w.heap.size]? = some (.mapIter (some g) cl #[] cl) := heap_alloc_new w _
  refine OPS.act (w' := w.alloc (.mapIter (some g) cl #[] cl)) hg hd hN ?_ (h _ w.heap.size H.size ((Below.refl _ _).alloc (Nat.le_refl _) _) ⟨H.os, H.tape, H.output, ?_, fun j hj hS => (Below.heap_alloc w _ j (Nat.lt_of_lt_of_le hj H.size)).trans (H.low j hj hS), fun b hm => (Below.heap_alloc w _ b.g (H.lt hm)).trans (H.own b hm), H.may, H.nodup⟩ ⟨es, cl, cl, cl, #[], hr', hb', h2, h3, h4, ((stamped_iff es cl).1 h2).1, ⟨Nat.le_refl _, Nat.le_refl _⟩, by rw [← h4]; congr 1; unfold leftOf; simp⟩)
  · unfold execOp; rw [hop]; simp only [hx]; simp [Instr.range, run_underlying ht, MapKept.run_getObj_map hb, Result.andThen]
  · show w0.heap.size ≤ (w.heap.push _).size
    rw [Array.size_push]; have := H.size; omega
theorem OPS.nextMap {d : Nat} (hop : o.op = .next x false) (hg : o.guard = none) (hd : o.dst = some d) (hN : Nat.blt d N = true) (M : IterAt P k w r g m todo) (hx : ev e x = .pointer (some ⟨r, 0, none⟩)) (H : SH w0 S w L) (hr : w0.heap.size ≤ r)
    (h0 : todo = [] → OPS P N .plain ops K rest (upd e d (.tuple #[.bool false])) w)
    (h1 : ∀ w' p todo', (p :: todo').Perm todo → SH w0 S w' L → (∀ j, j ≠ r → w'.heap[j]? = w.heap[j]?) → IterAt P k w' r g m todo' → CurAt w' r g p → OPS P N .plain ops K rest (upd e d (.tuple #[.bool true, p.1, p.2])) w') : OPS P N .plain ops K (o :: rest) e w := by
  rcases M.next o.type with ⟨h2, h3⟩ | ⟨p, todo', w1, ob, h2, h3, h4, h5, h6⟩
  · refine OPS.act (w' := w) hg hd hN ?_ (h0 h2)
    unfold execOp; rw [hop]; simp only [hx, Sem.run_bind, h3, Result.andThen_ok]; rfl
  · refine OPS.act (w' := setBlock w1 r ob) hg hd hN ?_ (h1 _ p todo' h2 (H.setI ob (M.notMem H) (.inr hr) h3) (fun j hj => (heap_setB w1 r ob hj).trans (by rcases h3 with rfl | rfl <;> rfl)) h5 h6)
    unfold execOp; rw [hop]; simp only [hx, Sem.run_bind, h4, Result.andThen_ok]; rfl
/-- both ways in one: c tells whether there is an entry -/
theorem OPS.nextMap2 {d : Nat} (hop : o.op = .next x false) (hg : o.guard = none) (hd : o.dst = some d) (hN : Nat.blt d N = true) (M : IterAt P k w r g m todo) (hx : ev e x = .pointer (some ⟨r, 0, none⟩)) (H : SH w0 S w L) (hr : w0.heap.size ≤ r)
    (h : ∀ w' (c : Bool) p todo', SH w0 S w' L → (c = false → todo = []) → (c = true → (p :: todo').Perm todo ∧ (∀ j, j ≠ r → w'.heap[j]? = w.heap[j]?) ∧ IterAt P k w' r g m todo' ∧ CurAt w' r g p) → OPS P N .plain ops K rest (upd e d (.tuple (if c then #[.bool true, p.1, p.2] else #[.bool false]))) w') : OPS P N .plain ops K (o :: rest) e w :=
  OPS.nextMap hop hg hd hN M hx H hr (fun h0 => h w false (.nilFunc, .nilFunc) [] H (fun _ => h0) (by simp)) (fun w' p todo' h1 h2 h3 h4 h5 => h w' true p todo' h2 (by simp) (fun _ => ⟨h1, h3, h4, h5⟩))
theorem Ev.entry (M : CurAt w r g p) (hx : ev e x = .pointer (some ⟨r, 0, none⟩)) : Ev P e w ty (.entry x) (.tuple #[p.1, p.2]) := ⟨fun w' hb o ho _ => by
  obtain ⟨es, cl, since, seen, en, h1, h2, h3, h4, rfl⟩ := (M.below hb).ex
  unfold execOp; rw [ho]; simp only [hx, Sem.run_bind, run_entry_at w' r g since seen es cl en h1 h2 h3 h4, Result.andThen_ok]; rfl⟩
theorem OPS.delMap {ix : Operand} {key : Value} {kl : Lit} (hop : o.op = .call { callee := .builtin .delete, args := #[x, ix], argTypes := #[t, k] }) (hg : o.guard = none) (hd : o.dst = none) (M : MapAt P k w g m) (KY : Go.Maps.Keyed P k) (ht : P.underlying t = some (.map k el)) (hkey : keyOf P k key = some kl)
    (hx : ev e x = .map (some g)) (hi : ev e ix = key) (H : SH w0 S w L) (hm : g ∈ S ∨ w0.heap.size ≤ g)
    (h : ∀ w' m', SH w0 S w' L → MapAt P k w' g m' → (∀ j, j ≠ g → w'.heap[j]? = w.heap[j]?) → (∀ p, p ∈ m' ↔ p ∈ m ∧ p.1 ≠ key) → OPS P N .plain ops K rest e w') :
    OPS P N .plain ops K (o :: rest) e w := by
  obtain ⟨ob, m', h1, h2, h3⟩ := M.del (ty := o.type) KY ht hkey
  refine OPS.actv (v := .tuple #[]) (w' := setBlock w g ob) hg hd ?_ (h _ m' (H.setB ob (M.notMem H) hm) h2 (fun j hj => heap_setB w g ob hj) h3)
  unfold execOp; rw [hop]
  simp [resolve, invoke, builtin, hx, hi, h1]
end
end Go.W

/-
  Walks: riding.
-/
set_option linter.all false
namespace Go.Proofs.Ytchjbjplddhknaa
open Go Go.W Go.RowKit

def ridB (r : Int) (l : List Spt) : Bool := l.any fun s => decide (s.wh = 3) && decide (s.who = r)
theorem ridingS (l : Loc) (σ : Sta) (tg : Nat → Nat) (r : Int) (w0 : World) (h : Rep w0 l σ tg) :
    Calls Try.prog 50 #[.pointer (some ⟨l.gS, 0, none⟩), I r] w0 fun e w' => e = .returned (.bool (ridB r σ.sp)) ∧ Below w0.heap.size w0 w' := by
  have H := SH.refl w0
  have hP := h.cell (k := 6) rfl
  obtain ⟨m, hM, hm⟩ := h.op
  refine Calls.ofWP Try.func50 rfl Try.results50 Try.ntmps50 rfl ?_
  refine WP.seq ?_
  refine WP.region ?_
  refine OPS.val rfl rfl rfl (Ev.asB rfl) ?_
  refine OPS.nil ?_
  refine WP.seq ?_
  refine WP.seq ?_
  refine WP.region ?_
  refine OPS.val rfl rfl rfl (Ev.mvP rfl) ?_
  refine OPS.val rfl rfl rfl ((by first | exact Ev.nilCheckP rfl | exact Ev.nilCheckF rfl)) ?_
  refine OPS.val rfl rfl rfl (Ev.fieldAddr (fld_run rfl) rfl) ?_
  refine OPS.val rfl rfl rfl (Ev.load1 (agg_run rfl) rfl (by first | exact H.ldL 0 rfl _ rfl | exact H.ldL 1 rfl _ rfl | exact H.ldL 2 rfl _ rfl | exact H.ldL 3 rfl _ rfl | exact H.ldL 4 rfl _ rfl | exact H.ldL 5 rfl _ rfl | exact H.ldL 6 rfl _ rfl | exact H.ldL 7 rfl _ rfl | exact H.ld0 (by assumption) | assumption | exact H.ldS (by assumption) (by assumption))) ?_
  refine OPS.rangeMap rfl rfl rfl rfl (hM.sh H (by simp)) Try.underlying67 rfl H ?_
  clear H; intro w gi hgi hbi H hI
  refine OPS.nil ?_
  refine WP.block ?_
  refine WP.loop [4, 6, 12, 13, 14, 15, 16, 17, 18, 19, 20, 21] (fun k e w' => ∃ (todo : List (Value × Value)), todo.length = k ∧ (∀ q ∈ todo, q ∈ m) ∧ (∀ q ∈ m, q ∈ todo ∨ ∀ b (hb : b < σ.sp.length), σ.sp[b].wh = 3 → q.2 = .pointer (some ⟨tg b, 0, none⟩) → σ.sp[b].who ≠ r) ∧ SH w0 [] w' [] ∧ IterAt Try.prog 3 w' gi l.gO m todo) (m.length) (⟨m, rfl, fun _ h => h, fun _ h => .inl h, H, hI⟩) ?_
  clear H hI
  rintro k u w ⟨todo, hk, hsub, hall, H, hI⟩
  refine WP.seq ?_
  refine WP.region ?_
  refine OPS.nextMap2 rfl rfl rfl rfl hI rfl H hgi ?_
  clear H; intro w c p todo' H hno hyes
  refine OPS.val rfl rfl rfl (Ev.extract (v := .bool c) rfl (by cases c <;> rfl)) ?_
  refine OPS.nil ?_
  refine WP.seq ?_
  refine WP.cond rfl (fun hc2 => ?_) (fun hc2 => ?_)
  · obtain rfl : c = true := hc2
    obtain ⟨hp, _, hI, hC⟩ := hyes rfl
    obtain ⟨b, hb, hwh, rfl⟩ := (hm p).1 (hsub p (hp.subset (List.mem_cons_self ..)))
    have hx : w0.cell? ⟨tg b, 0, none⟩ = some (I σ.sp[b].who) := cell_heap (h.tr b hb hwh) rfl
    have hlen := hp.length_eq
    refine WP.skip ?_
    refine WP.block ?_
    refine WP.seq ?_
    refine WP.region ?_
    refine OPS.val rfl rfl rfl (Ev.entry hC rfl) ?_
    refine OPS.val rfl rfl rfl (Ev.extract rfl rfl) ?_
    refine OPS.val rfl rfl rfl (Ev.asP rfl) ?_
    refine OPS.nil ?_
    refine WP.seq ?_
    refine WP.region ?_
    refine OPS.val rfl rfl rfl (Ev.mvP rfl) ?_
    refine OPS.val rfl rfl rfl ((by first | exact Ev.nilCheckP rfl | exact Ev.nilCheckF rfl)) ?_
    refine OPS.val rfl rfl rfl (Ev.fieldAddr (fld_run rfl) rfl) ?_
    refine OPS.val rfl rfl rfl (Ev.load1 (agg_run rfl) rfl (by first | exact H.ldL 0 rfl _ rfl | exact H.ldL 1 rfl _ rfl | exact H.ldL 2 rfl _ rfl | exact H.ldL 3 rfl _ rfl | exact H.ldL 4 rfl _ rfl | exact H.ldL 5 rfl _ rfl | exact H.ldL 6 rfl _ rfl | exact H.ldL 7 rfl _ rfl | exact H.ld0 (by assumption) | assumption | exact H.ldS (by assumption) (by assumption))) ?_
    refine OPS.val rfl rfl rfl (Ev.mvI rfl) ?_
    refine OPS.val rfl rfl rfl (Ev.eql rfl rfl) ?_
    refine OPS.nil ?_
    refine WP.cond rfl (fun hc4 => ?_) (fun hc4 => ?_)
    · refine WP.seq ?_
      refine WP.region ?_
      refine OPS.val rfl rfl rfl (Ev.asB rfl) ?_
      refine OPS.nil ?_
      refine WP.ret ⟨_, rfl, ?_⟩
      have hw : σ.sp[b].who = r := by simpa using hc4
      refine ⟨?_, H.below⟩
      have : ridB r σ.sp = true := List.any_eq_true.2 ⟨_, List.getElem_mem hb, by simp [hwh, hw]⟩
      rw [this]; rfl
    have hw : σ.sp[b].who ≠ r := by simpa using hc4
    refine WP.skip ?_
    refine ⟨(by repeat (first | exact Agree.refl _ _ | exact Agree.mix _ _ _ | refine Agree.upd rfl ?_ | refine Agree.mix2 rfl ?_)), todo'.length, by simp at hlen; omega, todo', rfl, fun q hq => hsub q (hp.subset (List.mem_cons_of_mem _ hq)), fun q hq => ?_, H, hI⟩
    rcases hall q hq with h1 | h1
    · rcases List.mem_cons.1 (hp.symm.subset h1) with rfl | h2
      · refine .inr fun b' hb' hwh' he => ?_
        have he' : tg b' = tg b := by simpa using he.symm
        have h2 : w0.cell? ⟨tg b', 0, none⟩ = some (I σ.sp[b'].who) := cell_heap (h.tr b' hb' hwh') rfl
        rw [he', hx] at h2
        have h3 : σ.sp[b].who = σ.sp[b'].who := by simpa using h2
        rwa [← h3]
      · exact .inl h2
    · exact .inr h1
  refine WP.exit ?_
  refine XB.hit ?_
  refine WP.seq ?_
  refine WP.region ?_
  refine OPS.val rfl rfl rfl (Ev.asB rfl) ?_
  refine OPS.nil ?_
  refine WP.ret ⟨_, rfl, ?_⟩
  obtain rfl : c = false := hc2
  have h0 := hno rfl
  subst h0
  refine ⟨?_, H.below⟩
  have : ridB r σ.sp = false := by
    rw [ridB, List.any_eq_false]
    intro s hs
    obtain ⟨b, hb, rfl⟩ := List.mem_iff_getElem.1 hs
    by_cases hwh : σ.sp[b].wh = 3
    · rcases hall _ ((hm _).2 ⟨b, hb, hwh, rfl⟩) with h1 | h1
      · cases h1
      · have := h1 b hb hwh rfl
        simp [this]
    · simp [hwh]
  rw [this]; rfl
end Go.Proofs.Ytchjbjplddhknaa
