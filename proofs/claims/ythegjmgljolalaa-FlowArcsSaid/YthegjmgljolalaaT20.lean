/-
  Walks: the reference's room and push.
-/
import Derived.Test.YthegjmgljolalaaM8
import Derived.Test.YthegjmgljolalaaT19
set_option linter.all false
namespace Go.Proofs.Ythegjmgljolalaa
open Go Go.W Go.RowKit

theorem step_at {l : List Arc} {on stp : List Int} {v : Nat} (h : v < stp.length) {i : Nat} {fw : Bool} {u k : Nat} {q w : Int} (hE : REdge p0 l on i fw u k q w) (hst : dAt stp v = encS i fw) : (stp.map (rstep l on)).getD v default = ⟨u, i, q, fw, true, 0⟩ := by
  rw [sts_at h, hst, rstep_enc hE]

set_option maxHeartbeats 1000000 in
theorem refRoom (n s t : Nat) (most : Int) (A B C : Option Addr) (l : List Arc) (on stp : List Int) (cap cap2 cap3 : Nat) (ks : List Nat) (w0 : World) (hN : NetOk n l) (hV : VFlow l on) (hz : ArcsAt w0 A l) (ho : IntsAt w0 B on) (hc : IntsAt w0 C stp) (hsl : stp.length = n)
    (hR : RPath l on stp n s ks t) (hks : ks.length ≤ n) :
    Calls Try.prog 38 #[.agg #[I n, .slice A l.length cap], .slice B on.length cap2, .slice C stp.length cap3, I s, I t, I most] w0 fun e w' => e = .returned (I (pushMin (stp.map (rstep l on)) ks most)) ∧ Below w0.heap.size w0 w' := by
  have H := SH.refl w0
  have hn2 := hN.n2
  have hll := hN.len
  have hol := hV.len
  refine Calls.ofWP Try.func38 rfl Try.results38 Try.ntmps38 rfl ?_
  refine WP.seq ?_
  refine WP.region ?_
  refine OPS.box rfl rfl rfl rfl (cA rfl) H ?_
  clear H; intro g6 w H
  refine OPS.val rfl rfl rfl (Ev.asI rfl) ?_
  refine OPS.nil ?_
  refine WP.seq ?_
  refine WP.region ?_
  refine OPS.val rfl rfl rfl (Ev.mvI rfl) ?_
  refine OPS.val rfl rfl rfl (Ev.asI rfl) ?_
  refine OPS.nil ?_
  refine WP.seq ?_
  refine WP.seq ?_
  refine WP.region ?_
  refine OPS.val rfl rfl rfl (Ev.asI rfl) ?_
  refine OPS.nil ?_
  refine WP.block ?_
  refine WP.loop [5, 13, 14, 15, 17, 18, 19, 20, 21, 22, 23, 24, 25, 26, 27, 28, 29, 30, 31, 32, 33, 34, 35, 36, 37, 38, 39, 40, 41, 42, 43, 44, 45, 46, 47, 48, 49, 50, 51, 52, 53, 54, 55, 56, 57, 58, 59, 60, 61, 62, 63, 64, 65, 66, 67, 68, 69, 70, 71] (fun g e w' => ∃ (v k : Nat) (m : Int) (xs : List Nat), xs.length = g ∧ k + xs.length = ks.length ∧ e 13 = I v ∧ e 14 = I k ∧ e 5 = I m ∧ RPath l on stp n s xs v ∧ pushMin (stp.map (rstep l on)) xs m = pushMin (stp.map (rstep l on)) ks most ∧ SH w0 [] w' [⟨g6, 24, [I n, .slice A l.length cap]⟩]) (ks.length) (⟨t, 0, most, ks, rfl, by omega, rfl, rfl, rfl, hR, rfl, H⟩) ?_
  clear H
  rintro g u w ⟨v, k, m, xs, hg, hk, h13, h14, h5, hP, hm, H⟩
  refine WP.know (t := 13) h13 (WP.know (t := 14) h14 (WP.know (t := 5) h5 ?_))
  refine WP.seq ?_
  refine WP.seq ?_
  refine WP.region ?_
  refine OPS.val rfl rfl rfl (Ev.mvI rfl) ?_
  refine OPS.val rfl rfl rfl (Ev.fieldAddr (fld_run rfl) rfl) ?_
  refine OPS.val rfl rfl rfl (Ev.load1 (agg_run rfl) rfl (by exact H.ldL 0 rfl _ rfl)) ?_
  refine OPS.val rfl rfl rfl (Ev.lss rfl rfl) ?_
  refine OPS.val rfl rfl rfl (Ev.mvB rfl) ?_
  refine OPS.gval rfl rfl rfl rfl rfl (fun hg => Ev.mvI (by rfl)) ?_
  refine OPS.gval rfl rfl rfl rfl rfl (fun hg => Ev.mvI (by rfl)) ?_
  refine OPS.gval rfl rfl rfl rfl rfl (fun hg => Ev.neq (by exact gvE hg rfl) (by exact gvE hg rfl)) ?_
  refine OPS.val rfl rfl rfl ((by exact Ev.pickAnd rfl rfl rfl)) ?_
  refine OPS.nil ?_
  refine WP.cond rfl (fun hc3 => ?_) (fun hc3 => ?_)
  · have hvs : v ≠ s := by intro he; subst he; simp at hc3
    obtain ⟨x, xs, rfl⟩ : ∃ x xs', xs = x :: xs' := by
      cases xs with
      | nil => exact absurd hP hvs
      | cons x xs => exact ⟨x, xs, rfl⟩
    obtain ⟨rfl, _, hvn, p, i, fw, q, w1, hp, hE, hst, hP⟩ := hP
    have hsta := step_at (stp := stp) (v := v) (by omega) hE hst
    obtain ⟨hi, hi2, eF, eB⟩ := hE
    obtain ⟨b3, o3, rfl, hxs⟩ := hc v (by omega)
    have hsv : stp[v]'(by omega) = encS i fw := by rw [← hst]; simp [dAt, hsl, hvn]
    obtain ⟨b, o, rfl, hcc⟩ := hz i hi
    obtain ⟨b2, o2, rfl, hx⟩ := ho i hi2
    obtain ⟨c0, c1, c2, c3, _⟩ := hcc
    have hcap := hN.caps l[i] (List.getElem_mem _)
    have hbd := hV.bd i hi hi2
    simp only [List.length_cons] at hg hk
    have hm2 : ∀ y, pushMin (stp.map (rstep l on)) xs (minI m q) = y → pushMin (stp.map (rstep l on)) (v :: xs) m = y := fun y hy => by rw [← hy]; simp only [pushMin, List.foldl_cons, hsta]
    have hm3 : pushMin (stp.map (rstep l on)) xs (minI m q) = pushMin (stp.map (rstep l on)) ks most := by rw [← hm2 _ rfl]; exact hm
    refine WP.skip ?_
    refine WP.seq ?_
    refine WP.block ?_
    refine WP.seq ?_
    refine WP.region ?_
    refine OPS.val rfl rfl rfl (Ev.mvS rfl) ?_
    refine OPS.val rfl rfl rfl (Ev.mvI rfl) ?_
    refine OPS.val rfl rfl rfl ((by exact Ev.indexAddr1 (el_run rfl) (size_run rfl) rfl rfl rfl (by omega))) ?_
    refine OPS.val rfl rfl rfl (Ev.load1 (agg_run rfl) rfl (by exact H.ld0 (by assumption))) ?_
    refine OPS.val rfl rfl rfl (Ev.asI rfl) ?_
    refine OPS.nil ?_
    refine WP.seq ?_
    refine WP.region ?_
    refine OPS.val rfl rfl rfl (Ev.mvI rfl) ?_
    refine OPS.val rfl rfl rfl (Ev.gtr rfl rfl) ?_
    refine OPS.nil ?_
    refine WP.cond rfl (fun hc6 => ?_) (fun hc6 => ?_)
    · have hfw : fw = true := by
        cases fw with
        | true => rfl
        | false => rw [hsv] at hc6; unfold encS at hc6; simp at hc6 <;> omega
      obtain ⟨g1, g2, g3, g4, _⟩ := eF hfw
      have hsv1 : stp[v]'(by omega) = (i : Int) + 1 := by rw [hsv, hfw]; rfl
      rw [g1] at c0
      have hmq : m = m := rfl
      have hpar : ∃ mm, mm = minI m q ∧ (if l[i].cap - on[i] < m then l[i].cap - on[i] else m) = mm := ⟨_, rfl, by rw [← g3]; rfl⟩
      refine WP.seq ?_
      refine WP.rstill mixed (by kernel_rfl) H ?_
      clear H; intro w hbw7 H
      refine OPS.val rfl rfl rfl (Ev.mvI rfl) ?_
      refine OPS.val rfl rfl rfl (Ev.fieldAddr (fld_run rfl) rfl) ?_
      refine OPS.val rfl rfl rfl (Ev.load1 (agg_run rfl) rfl (by exact H.ldL 0 rfl _ rfl)) ?_
      refine OPS.val rfl rfl rfl (Ev.mvI rfl) ?_
      refine OPS.val rfl rfl rfl (Ev.sub rfl rfl (by unfold fits; omega)) ?_
      refine OPS.val rfl rfl rfl (Ev.indexAddr (j := i) (el_run rfl) (size_run rfl) rfl rfl (by omega) hi) ?_
      refine OPS.val rfl rfl rfl (Ev.fieldAddr (fld_run rfl) rfl) ?_
      refine OPS.val rfl rfl rfl (Ev.load1 (agg_run rfl) rfl (by exact H.ld0 (by assumption))) ?_
      refine OPS.val rfl rfl rfl (Ev.mvS rfl) ?_
      refine OPS.val rfl rfl rfl (Ev.mvI rfl) ?_
      refine OPS.val rfl rfl rfl (Ev.sub rfl rfl (by unfold fits; omega)) ?_
      refine OPS.val rfl rfl rfl (Ev.indexAddr1 (j := i) (el_run rfl) (size_run rfl) rfl rfl (by omega) hi2) ?_
      refine OPS.val rfl rfl rfl (Ev.load1 (agg_run rfl) rfl (by exact H.ld0 (by assumption))) ?_
      refine OPS.val rfl rfl rfl (Ev.sub rfl rfl (by unfold fits; omega)) ?_
      refine OPS.val rfl rfl rfl (Ev.min rfl rfl) ?_
      refine OPS.val rfl rfl rfl (Ev.asI rfl) ?_
      refine OPS.nil_s ?_
      refine WP.region ?_
      refine OPS.val rfl rfl rfl (Ev.fieldAddr (fld_run rfl) rfl) ?_
      refine OPS.val rfl rfl rfl (Ev.load1 (agg_run rfl) rfl (by exact H.ldL 0 rfl _ rfl)) ?_
      refine OPS.val rfl rfl rfl (Ev.mvI rfl) ?_
      refine OPS.val rfl rfl rfl (Ev.sub rfl rfl (by unfold fits; omega)) ?_
      refine OPS.val rfl rfl rfl (Ev.indexAddr (j := i) (el_run rfl) (size_run rfl) rfl rfl (by omega) hi) ?_
      refine OPS.val rfl rfl rfl (Ev.fieldAddr (fld_run rfl) rfl) ?_
      refine OPS.val rfl rfl rfl (Ev.load1 (agg_run rfl) rfl (by exact H.ld0 (by assumption))) ?_
      refine OPS.val rfl rfl rfl (Ev.asI rfl) ?_
      refine OPS.nil ?_
      refine WP.region ?_
      refine OPS.val rfl rfl rfl (Ev.mvI rfl) ?_
      refine OPS.val rfl rfl rfl (Ev.add rfl rfl (by unfold fits; omega)) ?_
      refine OPS.val rfl rfl rfl (Ev.asI rfl) ?_
      refine OPS.nil ?_
      obtain ⟨mm, e1, e2⟩ := hpar
      exact ⟨(by repeat (first | exact Agree.refl _ _ | exact Agree.mix _ _ _ | refine Agree.upd rfl ?_ | refine Agree.mix2 rfl ?_)), xs.length, by omega, p, k + 1, minI m q, xs, rfl, by omega, rfl, rfl, by rw [← e1, ← e2]; rfl, hP, hm3, H⟩
    have hfw : fw = false := by
      cases fw with
      | false => rfl
      | true => rw [hsv] at hc6; unfold encS at hc6; simp at hc6 <;> omega
    obtain ⟨g1, g2, g3, g4, _⟩ := eB hfw
    have hsv1 : stp[v]'(by omega) = -(i : Int) - 1 := by rw [hsv, hfw]; rfl
    rw [g1] at c1
    have hpar : ∃ mm, mm = minI m q ∧ (if on[i] < m then on[i] else m) = mm := ⟨_, rfl, by rw [← g3]; rfl⟩
    refine WP.seq ?_
    refine WP.region ?_
    refine OPS.val rfl rfl rfl (Ev.mvI rfl) ?_
    refine OPS.val rfl rfl rfl (Ev.mvS rfl) ?_
    refine OPS.val rfl rfl rfl (Ev.mvI rfl) ?_
    refine OPS.val rfl rfl rfl (Ev.neg rfl (by unfold fits; omega)) ?_
    refine OPS.val rfl rfl rfl (Ev.sub rfl rfl (by unfold fits; omega)) ?_
    refine OPS.val rfl rfl rfl (Ev.indexAddr1 (j := i) (el_run rfl) (size_run rfl) rfl rfl (by omega) hi2) ?_
    refine OPS.val rfl rfl rfl (Ev.load1 (agg_run rfl) rfl (by exact H.ld0 (by assumption))) ?_
    refine OPS.val rfl rfl rfl (Ev.min rfl rfl) ?_
    refine OPS.val rfl rfl rfl (Ev.asI rfl) ?_
    refine OPS.nil ?_
    refine WP.region ?_
    refine OPS.val rfl rfl rfl (Ev.fieldAddr (fld_run rfl) rfl) ?_
    refine OPS.val rfl rfl rfl (Ev.load1 (agg_run rfl) rfl (by exact H.ldL 0 rfl _ rfl)) ?_
    refine OPS.val rfl rfl rfl (Ev.mvI rfl) ?_
    refine OPS.val rfl rfl rfl (Ev.neg rfl (by unfold fits; omega)) ?_
    refine OPS.val rfl rfl rfl (Ev.sub rfl rfl (by unfold fits; omega)) ?_
    refine OPS.val rfl rfl rfl (Ev.indexAddr (j := i) (el_run rfl) (size_run rfl) rfl rfl (by omega) hi) ?_
    refine OPS.val rfl rfl rfl (Ev.fieldAddr (fld_run rfl) rfl) ?_
    refine OPS.val rfl rfl rfl (Ev.load1 (agg_run rfl) rfl (by exact H.ld0 (by assumption))) ?_
    refine OPS.val rfl rfl rfl (Ev.asI rfl) ?_
    refine OPS.nil ?_
    refine WP.region ?_
    refine OPS.val rfl rfl rfl (Ev.mvI rfl) ?_
    refine OPS.val rfl rfl rfl (Ev.add rfl rfl (by unfold fits; omega)) ?_
    refine OPS.val rfl rfl rfl (Ev.asI rfl) ?_
    refine OPS.nil ?_
    obtain ⟨mm, e1, e2⟩ := hpar
    exact ⟨(by repeat (first | exact Agree.refl _ _ | exact Agree.mix _ _ _ | refine Agree.upd rfl ?_ | refine Agree.mix2 rfl ?_)), xs.length, by omega, p, k + 1, minI m q, xs, rfl, by omega, rfl, rfl, by rw [← e1, ← e2]; rfl, hP, hm3, H⟩
  refine WP.exit ?_
  refine XB.hit ?_
  refine WP.seq ?_
  refine WP.region ?_
  refine OPS.val rfl rfl rfl (Ev.mvI rfl) ?_
  refine OPS.val rfl rfl rfl (Ev.asI rfl) ?_
  refine OPS.nil ?_
  refine WP.ret ⟨_, rfl, ?_⟩
  have hvs : v = s := by
    cases xs with
    | nil => exact hP
    | cons x xs =>
      simp only [List.length_cons] at hk
      by_cases h : v = s
      · exact h
      · exfalso
        have h1 : ¬ ((v : Int) = s) := by omega
        have h2 : (k : Int) < n := by omega
        simp [h1, h2] at hc3
  have hxs : xs = [] := by
    cases xs with
    | nil => rfl
    | cons x xs => exact absurd hvs hP.2.1
  subst hxs
  exact ⟨by rw [← hm]; rfl, H.below⟩

set_option maxHeartbeats 1000000 in
theorem refPush (gon n s t : Nat) (M : Int) (A C : Option Addr) (l : List Arc) (on0 on stp : List Int) (cap cap2 cap3 : Nat) (ks : List Nat) (w0 : World) (hN : NetOk n l) (hon : on.length = l.length) (hz : ArcsAt w0 A l) (hAo : l ≠ [] → Off A [gon]) (hc : IntsAt w0 C stp) (hCo : stp ≠ [] → Off C [gon]) (hsl : stp.length = n)
    (hR : RPath l on0 stp n s ks t) (hks : ks.length ≤ n) (hM : 0 ≤ M ∧ M ≤ 100000000) (hob : ∀ i (h : i < on.length), -1000000000 ≤ on[i] ∧ on[i] ≤ 1000000000) (H0 : SH w0 [gon] w0 [⟨gon, 3, on.map I⟩]) :
    Calls Try.prog 39 #[.agg #[I n, .slice A l.length cap], .slice (some ⟨gon, 0, none⟩) on.length cap2, .slice C stp.length cap3, I s, I t, I M] w0 fun e w' => e = .returned (.tuple #[]) ∧ SH w0 [gon] w' [⟨gon, 3, (pushOn (stp.map (rstep l on0)) ks M on).map I⟩] := by
  have H := H0
  have hn2 := hN.n2
  have hll := hN.len
  refine Calls.ofWP Try.func39 rfl Try.results39 Try.ntmps39 rfl ?_
  refine WP.seq ?_
  refine WP.region ?_
  refine OPS.box rfl rfl rfl rfl (cA rfl) H ?_
  clear H; intro g6 w H
  refine OPS.nil ?_
  refine WP.seq ?_
  refine WP.region ?_
  refine OPS.val rfl rfl rfl (Ev.mvI rfl) ?_
  refine OPS.val rfl rfl rfl (Ev.asI rfl) ?_
  refine OPS.nil ?_
  refine WP.seq ?_
  refine WP.region ?_
  refine OPS.val rfl rfl rfl (Ev.asI rfl) ?_
  refine OPS.nil ?_
  refine WP.block ?_
  refine WP.loop [12, 13, 14, 16, 17, 18, 19, 20, 21, 22, 23, 24, 25, 26, 27, 28, 29, 30, 31, 32, 33, 34, 35, 36, 37, 38, 39, 40, 41, 42, 43, 44, 45, 46, 47, 48, 49, 50, 51, 52, 53, 54, 55, 56, 57, 58, 59, 60, 61, 62, 63, 64, 65, 66, 67, 68, 69, 70, 71] (fun g e w' => ∃ (v k : Nat) (on' : List Int) (xs : List Nat), xs.length = g ∧ k + xs.length = ks.length ∧ e 12 = I v ∧ e 13 = I k ∧ RPath l on0 stp n s xs v ∧ on'.length = on.length ∧ pushOn (stp.map (rstep l on0)) xs M on' = pushOn (stp.map (rstep l on0)) ks M on ∧ (∀ i (h : i < on'.length), -1000000000 - 100000000 * (k : Int) ≤ on'[i] ∧ on'[i] ≤ 1000000000 + 100000000 * (k : Int)) ∧ SH w0 [gon] w' [⟨g6, 24, [I n, .slice A l.length cap]⟩, ⟨gon, 3, on'.map I⟩]) (ks.length) (⟨t, 0, on, ks, rfl, by omega, rfl, rfl, hR, rfl, rfl, fun i h => by have := hob i h; omega, H⟩) ?_
  clear H
  rintro g u w ⟨v, k, on', xs, hg, hk, h12, h13, hP, hol, hm, hob', H⟩
  refine WP.know (t := 12) h12 (WP.know (t := 13) h13 ?_)
  refine WP.seq ?_
  refine WP.seq ?_
  refine WP.region ?_
  refine OPS.val rfl rfl rfl (Ev.mvI rfl) ?_
  refine OPS.val rfl rfl rfl (Ev.fieldAddr (fld_run rfl) rfl) ?_
  refine OPS.val rfl rfl rfl (Ev.load1 (agg_run rfl) rfl (by exact H.ldL 0 rfl _ rfl)) ?_
  refine OPS.val rfl rfl rfl (Ev.lss rfl rfl) ?_
  refine OPS.val rfl rfl rfl (Ev.mvB rfl) ?_
  refine OPS.gval rfl rfl rfl rfl rfl (fun hg => Ev.mvI (by rfl)) ?_
  refine OPS.gval rfl rfl rfl rfl rfl (fun hg => Ev.mvI (by rfl)) ?_
  refine OPS.gval rfl rfl rfl rfl rfl (fun hg => Ev.neq (by exact gvE hg rfl) (by exact gvE hg rfl)) ?_
  refine OPS.val rfl rfl rfl ((by exact Ev.pickAnd rfl rfl rfl)) ?_
  refine OPS.nil ?_
  refine WP.cond rfl (fun hc3 => ?_) (fun hc3 => ?_)
  · have hvs : v ≠ s := by intro he; subst he; simp at hc3
    obtain ⟨x, xs, rfl⟩ : ∃ x xs', xs = x :: xs' := by
      cases xs with
      | nil => exact absurd hP hvs
      | cons x xs => exact ⟨x, xs, rfl⟩
    obtain ⟨rfl, _, hvn, p, i, fw, q, w1, hp, hE, hst, hP⟩ := hP
    have hsta := step_at (stp := stp) (v := v) (by omega) hE hst
    obtain ⟨hi, hi2, eF, eB⟩ := hE
    have hstl : stp ≠ [] := List.ne_nil_of_length_pos (by omega)
    have hll0 : l ≠ [] := List.ne_nil_of_length_pos (by omega)
    obtain ⟨b3, o3, rfl, hxs⟩ := hc v (by omega)
    have hb3 : b3 ∉ [gon] := hCo hstl b3 o3 rfl
    have hsv : stp[v]'(by omega) = encS i fw := by rw [← hst]; simp [dAt, hsl, hvn]
    obtain ⟨b, o, rfl, hcc⟩ := hz i hi
    have hb1 : b ∉ [gon] := hAo hll0 b o rfl
    obtain ⟨c0, c1, c2, c3, _⟩ := hcc
    have hbi := hob' i (by omega)
    simp only [List.length_cons] at hg hk
    have hgd2 : on'.getD i 0 = on'[i]'(by omega) := by simp [hol, hon, hi]
    have hii : i < on'.length := by omega
    refine WP.skip ?_
    refine WP.seq ?_
    refine WP.block ?_
    refine WP.seq ?_
    refine WP.region ?_
    refine OPS.val rfl rfl rfl (Ev.mvS rfl) ?_
    refine OPS.val rfl rfl rfl (Ev.mvI rfl) ?_
    refine OPS.val rfl rfl rfl ((by exact Ev.indexAddr1 (el_run rfl) (size_run rfl) rfl rfl rfl (by omega))) ?_
    refine OPS.val rfl rfl rfl (Ev.load1 (agg_run rfl) rfl (by exact H.ldS (by assumption) (by assumption))) ?_
    refine OPS.val rfl rfl rfl (Ev.asI rfl) ?_
    refine OPS.nil ?_
    refine WP.seq ?_
    refine WP.region ?_
    refine OPS.val rfl rfl rfl (Ev.mvI rfl) ?_
    refine OPS.val rfl rfl rfl (Ev.gtr rfl rfl) ?_
    refine OPS.nil ?_
    refine WP.cond rfl (fun hc6 => ?_) (fun hc6 => ?_)
    · have hfw : fw = true := by
        cases fw with
        | true => rfl
        | false => rw [hsv] at hc6; unfold encS at hc6; simp at hc6 <;> omega
      obtain ⟨g1, g2, g3, g4, _⟩ := eF hfw
      have hsv1 : stp[v]'(by omega) = (i : Int) + 1 := by rw [hsv, hfw]; rfl
      rw [g1] at c0
      have hp1 : push1 (stp.map (rstep l on0)) M on' v = on'.set i (on'[i] + M) := by simp only [push1, hsta, Int.toNat_natCast, hgd2, hfw, if_true]
      refine WP.seq ?_
      refine WP.region ?_
      have hxc := (onesOwn H 1 rfl).atK (show i < on'.length by omega)
      refine OPS.val rfl rfl rfl (Ev.mvS rfl) ?_
      refine OPS.val rfl rfl rfl (Ev.mvI rfl) ?_
      refine OPS.val rfl rfl rfl (Ev.sub rfl rfl (by unfold fits; omega)) ?_
      refine OPS.val rfl rfl rfl (Ev.mvS rfl) ?_
      refine OPS.val rfl rfl rfl (Ev.mvI rfl) ?_
      refine OPS.val rfl rfl rfl (Ev.sub rfl rfl (by unfold fits; omega)) ?_
      refine OPS.val rfl rfl rfl (Ev.indexAddr1 (j := i) (el_run rfl) (size_run rfl) rfl rfl (by omega) (by omega)) ?_
      refine OPS.val rfl rfl rfl (Ev.load1 (agg_run rfl) rfl (by assumption)) ?_
      refine OPS.val rfl rfl rfl (Ev.mvI rfl) ?_
      refine OPS.val rfl rfl rfl (Ev.add rfl rfl (by unfold fits; omega)) ?_
      refine OPS.val rfl rfl rfl (Ev.indexAddr1 (j := i) (el_run rfl) (size_run rfl) rfl rfl (by omega) (by omega)) ?_
      have hpu : putL (on'.map I) (0 + i) [I (on'[i] + M)] = (on'.set i (on'[i] + M)).map I := by rw [Nat.zero_add, putL_ones]
      refine OPS.store (vs := [I (on'[i] + M)]) 1 _ rfl rfl rfl (size_run rfl) rfl (cI rfl) rfl rfl H rfl (by simp only [List.length_map]; omega) ?_
      clear H; intro w H
      simp only [List.set_cons_zero, List.set_cons_succ] at H
      rw [hpu, ← hp1] at H
      refine OPS.nil ?_
      refine WP.region ?_
      refine OPS.val rfl rfl rfl (Ev.fieldAddr (fld_run rfl) rfl) ?_
      refine OPS.val rfl rfl rfl (Ev.load1 (agg_run rfl) rfl (by exact H.ldL 0 rfl _ rfl)) ?_
      refine OPS.val rfl rfl rfl (Ev.mvI rfl) ?_
      refine OPS.val rfl rfl rfl (Ev.sub rfl rfl (by unfold fits; omega)) ?_
      refine OPS.val rfl rfl rfl (Ev.indexAddr (j := i) (el_run rfl) (size_run rfl) rfl rfl (by omega) hi) ?_
      refine OPS.val rfl rfl rfl (Ev.fieldAddr (fld_run rfl) rfl) ?_
      refine OPS.val rfl rfl rfl (Ev.load1 (agg_run rfl) rfl (by exact H.ldS (by assumption) (by assumption))) ?_
      refine OPS.val rfl rfl rfl (Ev.asI rfl) ?_
      refine OPS.nil ?_
      refine WP.region ?_
      refine OPS.val rfl rfl rfl (Ev.mvI rfl) ?_
      refine OPS.val rfl rfl rfl (Ev.add rfl rfl (by unfold fits; omega)) ?_
      refine OPS.val rfl rfl rfl (Ev.asI rfl) ?_
      refine OPS.nil ?_
      refine ⟨(by repeat (first | exact Agree.refl _ _ | exact Agree.mix _ _ _ | refine Agree.upd rfl ?_ | refine Agree.mix2 rfl ?_)), xs.length, by omega, p, k + 1, push1 (stp.map (rstep l on0)) M on' v, xs, rfl, by omega, rfl, rfl, hP, by rw [push1_length]; exact hol, by rw [← hm]; simp only [pushOn, List.foldl_cons], fun y hy => ?_, H⟩
      have hy2 : y < on'.length := by rw [push1_length] at hy; exact hy
      have hh := hob' y hy2
      simp only [hp1, List.getElem_set]
      split
      · rename_i he; subst he; omega
      · omega
    have hfw : fw = false := by
      cases fw with
      | false => rfl
      | true => rw [hsv] at hc6; unfold encS at hc6; simp at hc6 <;> omega
    obtain ⟨g1, g2, g3, g4, _⟩ := eB hfw
    have hsv1 : stp[v]'(by omega) = -(i : Int) - 1 := by rw [hsv, hfw]; rfl
    rw [g1] at c1
    have hp1 : push1 (stp.map (rstep l on0)) M on' v = on'.set i (on'[i] - M) := by simp only [push1, hsta, Int.toNat_natCast, hgd2, hfw]; rfl
    refine WP.seq ?_
    refine WP.region ?_
    have hxc := (onesOwn H 1 rfl).atK (show i < on'.length by omega)
    refine OPS.val rfl rfl rfl (Ev.mvS rfl) ?_
    refine OPS.val rfl rfl rfl (Ev.mvI rfl) ?_
    refine OPS.val rfl rfl rfl (Ev.neg rfl (by unfold fits; omega)) ?_
    refine OPS.val rfl rfl rfl (Ev.sub rfl rfl (by unfold fits; omega)) ?_
    refine OPS.val rfl rfl rfl (Ev.mvS rfl) ?_
    refine OPS.val rfl rfl rfl (Ev.mvI rfl) ?_
    refine OPS.val rfl rfl rfl (Ev.neg rfl (by unfold fits; omega)) ?_
    refine OPS.val rfl rfl rfl (Ev.sub rfl rfl (by unfold fits; omega)) ?_
    refine OPS.val rfl rfl rfl (Ev.indexAddr1 (j := i) (el_run rfl) (size_run rfl) rfl rfl (by omega) (by omega)) ?_
    refine OPS.val rfl rfl rfl (Ev.load1 (agg_run rfl) rfl (by assumption)) ?_
    refine OPS.val rfl rfl rfl (Ev.mvI rfl) ?_
    refine OPS.val rfl rfl rfl (Ev.sub rfl rfl (by unfold fits; omega)) ?_
    refine OPS.val rfl rfl rfl (Ev.indexAddr1 (j := i) (el_run rfl) (size_run rfl) rfl rfl (by omega) (by omega)) ?_
    have hpu : putL (on'.map I) (0 + i) [I (on'[i] - M)] = (on'.set i (on'[i] - M)).map I := by rw [Nat.zero_add, putL_ones]
    refine OPS.store (vs := [I (on'[i] - M)]) 1 _ rfl rfl rfl (size_run rfl) rfl (cI rfl) rfl rfl H rfl (by simp only [List.length_map]; omega) ?_
    clear H; intro w H
    simp only [List.set_cons_zero, List.set_cons_succ] at H
    rw [hpu, ← hp1] at H
    refine OPS.nil ?_
    refine WP.region ?_
    refine OPS.val rfl rfl rfl (Ev.fieldAddr (fld_run rfl) rfl) ?_
    refine OPS.val rfl rfl rfl (Ev.load1 (agg_run rfl) rfl (by exact H.ldL 0 rfl _ rfl)) ?_
    refine OPS.val rfl rfl rfl (Ev.mvI rfl) ?_
    refine OPS.val rfl rfl rfl (Ev.neg rfl (by unfold fits; omega)) ?_
    refine OPS.val rfl rfl rfl (Ev.sub rfl rfl (by unfold fits; omega)) ?_
    refine OPS.val rfl rfl rfl (Ev.indexAddr (j := i) (el_run rfl) (size_run rfl) rfl rfl (by omega) hi) ?_
    refine OPS.val rfl rfl rfl (Ev.fieldAddr (fld_run rfl) rfl) ?_
    refine OPS.val rfl rfl rfl (Ev.load1 (agg_run rfl) rfl (by exact H.ldS (by assumption) (by assumption))) ?_
    refine OPS.val rfl rfl rfl (Ev.asI rfl) ?_
    refine OPS.nil ?_
    refine WP.region ?_
    refine OPS.val rfl rfl rfl (Ev.mvI rfl) ?_
    refine OPS.val rfl rfl rfl (Ev.add rfl rfl (by unfold fits; omega)) ?_
    refine OPS.val rfl rfl rfl (Ev.asI rfl) ?_
    refine OPS.nil ?_
    refine ⟨(by repeat (first | exact Agree.refl _ _ | exact Agree.mix _ _ _ | refine Agree.upd rfl ?_ | refine Agree.mix2 rfl ?_)), xs.length, by omega, p, k + 1, push1 (stp.map (rstep l on0)) M on' v, xs, rfl, by omega, rfl, rfl, hP, by rw [push1_length]; exact hol, by rw [← hm]; simp only [pushOn, List.foldl_cons], fun y hy => ?_, H⟩
    have hy2 : y < on'.length := by rw [push1_length] at hy; exact hy
    have hh := hob' y hy2
    simp only [hp1, List.getElem_set]
    split
    · rename_i he; subst he; omega
    · omega
  refine WP.exit ?_
  refine XB.hit ?_
  refine ⟨_, rfl, ?_⟩
  have hvs : v = s := by
    cases xs with
    | nil => exact hP
    | cons x xs =>
      simp only [List.length_cons] at hk
      by_cases h : v = s
      · exact h
      · exfalso
        have h1 : ¬ ((v : Int) = s) := by omega
        have h2 : (k : Int) < n := by omega
        simp [h1, h2] at hc3
  have hxs : xs = [] := by
    cases xs with
    | nil => rfl
    | cons x xs => exact absurd hvs hP.2.1
  subst hxs
  rw [← hm]
  exact ⟨rfl, H.drop (List.sublist_cons_self _ _)⟩
end Go.Proofs.Ythegjmgljolalaa
