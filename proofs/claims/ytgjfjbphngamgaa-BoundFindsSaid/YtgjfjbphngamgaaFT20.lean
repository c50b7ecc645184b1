/-
 Walks: the reference's room and push.
-/
import Derived.Test.YtgjfjbphngamgaaC3
import Derived.Test.YtgjfjbphngamgaaNest
import Derived.Test.YtgjfjbphngamgaaFT13
import Derived.Test.YtgjfjbphngamgaaFT10
set_option linter.all false
namespace Go.Proofs.Ytgjfjbphngamgaa.Flo
open Go Go.W Go.RowKit
theorem step_at {l : List Arc} {on stp : List Int} {v : Nat} (h : v < stp.length) {i : Nat} {fw : Bool} {u k : Nat} {q w : Int} (hE : REdge p0 l on i fw u k q w) (hst : dAt stp v = encS i fw) : (stp.map (rstep l on)).getD v default = ⟨u, i, q, fw, true, 0⟩ := by
 rw [sts_at h, hst, rstep_enc hE]
set_option maxHeartbeats 1000000 in
theorem refRoom (n s t : Nat) (most : Int) (A B C : Option Addr) (l : List Arc) (on stp : List Int) (cap cap2 cap3 : Nat) (ks : List Nat) (w0 : World) (hN : NetOk n l) (hV : VFlow l on) (hz : ArcsAt w0 A l) (ho : IntsAt w0 B on) (hc : IntsAt w0 C stp) (hsl : stp.length = n)
  (hR : RPath l on stp n s ks t) (hks : ks.length ≤ n) :
  Calls Try.prog 65 #[.agg #[I n, .slice A l.length cap], .slice B on.length cap2, .slice C stp.length cap3, I s, I t, I most] w0 fun e w' => e = .returned (I (pushMin (stp.map (rstep l on)) ks most)) ∧ Below w0.heap.size w0 w' := by
 have H := SH.refl w0
 have hn2 := hN.n2
 have hll := hN.len
 have hol := hV.len
 refine Calls.ofWP Try.func65 rfl Try.results65 Try.ntmps65 rfl <| Y.qr <| Y.bx (cA rfl) H ?_
 clear H; intro g6 w H
 refine Y.v (Ev.asI rfl) <| Y.z <| Y.qr <| Y.v (Y.m rfl) <| Y.v (Ev.asI rfl) <| Y.z <| Y.q <| Y.qr <| Y.v (Ev.asI rfl) <| Y.z <| WP.block <| WP.loop [5, 13, 14, 15, 17, 18, 19, 20, 21, 22, 23, 24, 25, 26, 27, 28, 29, 30, 31, 32, 33, 34, 35, 36, 37, 38, 39, 40, 41, 42, 43, 44, 45, 46, 47, 48, 49, 50, 51, 52, 53, 54, 55, 56, 57, 58, 59, 60, 61, 62, 63, 64, 65, 66, 67, 68, 69, 70, 71] (fun g e w' => ∃ (v k : Nat) (m : Int) (xs : List Nat), xs.length = g ∧ k + xs.length = ks.length ∧ e 13 = I v ∧ e 14 = I k ∧ e 5 = I m ∧ RPath l on stp n s xs v ∧ pushMin (stp.map (rstep l on)) xs m = pushMin (stp.map (rstep l on)) ks most ∧ SH w0 [] w' [⟨g6, 76, [I n, .slice A l.length cap]⟩]) (ks.length) (⟨t, 0, most, ks, rfl, by omega, rfl, rfl, rfl, hR, rfl, H⟩) ?_
 clear H
 rintro g u w ⟨v, k, m, xs, hg, hk, h13, h14, h5, hP, hm, H⟩
 refine WP.know (t := 13) h13 (WP.know (t := 14) h14 (WP.know (t := 5) h5 ?_))
 refine Y.q <| Y.qr <| Y.v (Y.m rfl) <| Y.v (Y.f rfl rfl) <| Y.v (Y.l H 0 rfl rfl rfl) <| Y.v (Ev.lss rfl rfl) <| Y.v (Ev.mvB rfl) <| Y.g rfl rfl (fun hg => Y.m rfl) <| Y.g rfl rfl (fun hg => Y.m rfl) <| Y.g rfl rfl (fun hg => Ev.neq (gvE hg rfl) (gvE hg rfl)) <| Y.v (Ev.pickAnd rfl rfl rfl) <| Y.z ?_
 refine WP.cond rfl (fun hc3 => ?_) (fun hc3 => ?_)
 ·have hvs : v ≠ s := by intro he; subst he; simp at hc3
  obtain ⟨x, xs, rfl⟩ : ∃ x xs', xs = x :: xs' := by
   cases xs with
   | nil => exact absurd hP hvs
   | cons x xs => exact ⟨x, xs, rfl⟩
  obtain ⟨rfl, _, hvn, p, i, fw, q, w1, hp, hE, hst, hP⟩ := hP
  have hsta := step_at (stp := stp) (v := v) (by omega) hE hst
  obtain ⟨hi, hi2, eF, eB⟩ := hE
  obtain ⟨b3, o3, rfl, hxs⟩ := hc v (by omega)
  have hsv : stp[v]'(by omega) = encS i fw := by rw [← hst]; simp [dAt, hsl, hvn]
  obtain ⟨b, o, rfl, hcc⟩ := hz i hi
  obtain ⟨b2, o2, rfl, hx⟩ := ho i hi2
  obtain ⟨c0, c1, c2, c3, _⟩ := hcc
  have hcap := hN.caps l[i] (List.getElem_mem _)
  have hbd := hV.bd i hi hi2
  simp only [List.length_cons] at hg hk
  have hm2 : ∀ y, pushMin (stp.map (rstep l on)) xs (minI m q) = y → pushMin (stp.map (rstep l on)) (v :: xs) m = y := fun y hy => by rw [← hy]; simp only [pushMin, List.foldl_cons, hsta]
  have hm3 : pushMin (stp.map (rstep l on)) xs (minI m q) = pushMin (stp.map (rstep l on)) ks most := by rw [← hm2 _ rfl]; exact hm
  refine Y.k <| Y.q <| WP.block <| Y.qr <| Y.v (Ev.mvS rfl) <| Y.v (Y.m rfl) <| Y.v (Y.x rfl rfl rfl rfl) <| Y.v (Y.c (H.ld0 (by assumption)) rfl) ?_
  refine Y.v (Ev.asI rfl) <| Y.z <| Y.qr <| Y.v (Y.m rfl) <| Y.v (Ev.gtr rfl rfl) <| Y.z ?_
  refine WP.cond rfl (fun hc6 => ?_) (fun hc6 => ?_)
  ·have hfw : fw = true := by
    cases fw with
    | true => rfl
    | false => rw [hsv] at hc6; unfold encS at hc6; simp at hc6 <;> omega
   obtain ⟨g1, g2, g3, g4, _⟩ := eF hfw
   have hsv1 : stp[v]'(by omega) = (i : Int) + 1 := by rw [hsv, hfw]; rfl
   rw [g1] at c0
   have hmq : m = m := rfl
   have hpar : ∃ mm, mm = minI m q ∧ (if l[i].cap - on[i] < m then l[i].cap - on[i] else m) = mm := ⟨_, rfl, by rw [← g3]; rfl⟩
   refine Y.q <| WP.rstill mixed (by kernel_rfl) H ?_
   clear H; intro w hbw7 H
   refine Y.v (Y.m rfl) <| Y.v (Y.f rfl rfl) <| Y.v (Y.l H 0 rfl rfl rfl) <| Y.v (Y.m rfl) <| Y.v (Y.s rfl rfl) <| Y.v (Ev.indexAddr (j := i) (el_run rfl) (size_run rfl) rfl rfl (by omega) hi) <| Y.v (Y.f rfl rfl) <| Y.v (Y.c (H.ld0 (by assumption)) rfl) ?_
   refine Y.v (Ev.mvS rfl) <| Y.v (Y.m rfl) <| Y.v (Y.s rfl rfl) <| Y.v (Ev.indexAddr1 (j := i) (el_run rfl) (size_run rfl) rfl rfl (by omega) hi2) <| Y.v (Y.c (H.ld0 (by assumption)) rfl) ?_
   refine Y.v (Y.s rfl rfl) <| Y.v (Ev.min rfl rfl) <| Y.v (Ev.asI rfl) <| OPS.nil_s <| Y.r <| Y.v (Y.f rfl rfl) <| Y.v (Y.l H 0 rfl rfl rfl) <| Y.v (Y.m rfl) <| Y.v (Y.s rfl rfl) <| Y.v (Ev.indexAddr (j := i) (el_run rfl) (size_run rfl) rfl rfl (by omega) hi) <| Y.v (Y.f rfl rfl) <| Y.v (Y.c (H.ld0 (by assumption)) rfl) ?_
   refine Y.v (Ev.asI rfl) <| Y.z <| Y.r <| Y.v (Y.m rfl) <| Y.v (Y.p rfl rfl) <| Y.v (Ev.asI rfl) <| Y.z ?_
   obtain ⟨mm, e1, e2⟩ := hpar
   exact ⟨(by repeat (first | exact Agree.refl _ _ | exact Agree.mix _ _ _ | refine Agree.upd rfl ?_ | refine Agree.mix2 rfl ?_)), xs.length, by omega, p, k + 1, minI m q, xs, rfl, by omega, rfl, rfl, by rw [← e1, ← e2]; rfl, hP, hm3, H⟩
  have hfw : fw = false := by
   cases fw with
   | false => rfl
   | true => rw [hsv] at hc6; unfold encS at hc6; simp at hc6 <;> omega
  obtain ⟨g1, g2, g3, g4, _⟩ := eB hfw
  have hsv1 : stp[v]'(by omega) = -(i : Int) - 1 := by rw [hsv, hfw]; rfl
  rw [g1] at c1
  have hpar : ∃ mm, mm = minI m q ∧ (if on[i] < m then on[i] else m) = mm := ⟨_, rfl, by rw [← g3]; rfl⟩
  refine Y.qr <| Y.v (Y.m rfl) <| Y.v (Ev.mvS rfl) <| Y.v (Y.m rfl) <| Y.v (Ev.neg rfl (by unfold fits; omega)) <| Y.v (Y.s rfl rfl) <| Y.v (Ev.indexAddr1 (j := i) (el_run rfl) (size_run rfl) rfl rfl (by omega) hi2) <| Y.v (Y.c (H.ld0 (by assumption)) rfl) ?_
  refine Y.v (Ev.min rfl rfl) <| Y.v (Ev.asI rfl) <| Y.z <| Y.r <| Y.v (Y.f rfl rfl) <| Y.v (Y.l H 0 rfl rfl rfl) <| Y.v (Y.m rfl) <| Y.v (Ev.neg rfl (by unfold fits; omega)) <| Y.v (Y.s rfl rfl) <| Y.v (Ev.indexAddr (j := i) (el_run rfl) (size_run rfl) rfl rfl (by omega) hi) <| Y.v (Y.f rfl rfl) <| Y.v (Y.c (H.ld0 (by assumption)) rfl) ?_
  refine Y.v (Ev.asI rfl) <| Y.z <| Y.r <| Y.v (Y.m rfl) <| Y.v (Y.p rfl rfl) <| Y.v (Ev.asI rfl) <| Y.z ?_
  obtain ⟨mm, e1, e2⟩ := hpar
  exact ⟨(by repeat (first | exact Agree.refl _ _ | exact Agree.mix _ _ _ | refine Agree.upd rfl ?_ | refine Agree.mix2 rfl ?_)), xs.length, by omega, p, k + 1, minI m q, xs, rfl, by omega, rfl, rfl, by rw [← e1, ← e2]; rfl, hP, hm3, H⟩
 refine WP.exit <| XB.hit <| Y.qr <| Y.v (Y.m rfl) <| Y.v (Ev.asI rfl) <| Y.z ?_
 refine WP.ret ⟨_, rfl, ?_⟩
 have hvs : v = s := by
  cases xs with
  | nil => exact hP
  | cons x xs =>
   simp only [List.length_cons] at hk
   by_cases h : v = s
   ·exact h
   ·exfalso
    have h1 : ¬ ((v : Int) = s) := by omega
    have h2 : (k : Int) < n := by omega
    simp [h1, h2] at hc3
 have hxs : xs = [] := by
  cases xs with
  | nil => rfl
  | cons x xs => exact absurd hvs hP.2.1
 subst hxs
 exact ⟨by rw [← hm]; rfl, H.below⟩
set_option maxHeartbeats 1000000 in
theorem refPush (gon n s t : Nat) (M : Int) (A C : Option Addr) (l : List Arc) (on0 on stp : List Int) (cap cap2 cap3 : Nat) (ks : List Nat) (w0 : World) (hN : NetOk n l) (hon : on.length = l.length) (hz : ArcsAt w0 A l) (hAo : l ≠ [] → Off A [gon]) (hc : IntsAt w0 C stp) (hCo : stp ≠ [] → Off C [gon]) (hsl : stp.length = n)
  (hR : RPath l on0 stp n s ks t) (hks : ks.length ≤ n) (hM : 0 ≤ M ∧ M ≤ 100000000) (hob : ∀ i (h : i < on.length), -1000000000 ≤ on[i] ∧ on[i] ≤ 1000000000) (H0 : SH w0 [gon] w0 [⟨gon, 3, on.map I⟩]) :
  Calls Try.prog 66 #[.agg #[I n, .slice A l.length cap], .slice (some ⟨gon, 0, none⟩) on.length cap2, .slice C stp.length cap3, I s, I t, I M] w0 fun e w' => e = .returned (.tuple #[]) ∧ SH w0 [gon] w' [⟨gon, 3, (pushOn (stp.map (rstep l on0)) ks M on).map I⟩] := by
 have H := H0
 have hn2 := hN.n2
 have hll := hN.len
 refine Calls.ofWP Try.func66 rfl Try.results66 Try.ntmps66 rfl <| Y.qr <| Y.bx (cA rfl) H ?_
 clear H; intro g6 w H
 refine Y.z <| Y.qr <| Y.v (Y.m rfl) <| Y.v (Ev.asI rfl) <| Y.z <| Y.qr <| Y.v (Ev.asI rfl) <| Y.z <| WP.block <| WP.loop [12, 13, 14, 16, 17, 18, 19, 20, 21, 22, 23, 24, 25, 26, 27, 28, 29, 30, 31, 32, 33, 34, 35, 36, 37, 38, 39, 40, 41, 42, 43, 44, 45, 46, 47, 48, 49, 50, 51, 52, 53, 54, 55, 56, 57, 58, 59, 60, 61, 62, 63, 64, 65, 66, 67, 68, 69, 70, 71] (fun g e w' => ∃ (v k : Nat) (on' : List Int) (xs : List Nat), xs.length = g ∧ k + xs.length = ks.length ∧ e 12 = I v ∧ e 13 = I k ∧ RPath l on0 stp n s xs v ∧ on'.length = on.length ∧ pushOn (stp.map (rstep l on0)) xs M on' = pushOn (stp.map (rstep l on0)) ks M on ∧ (∀ i (h : i < on'.length), -1000000000 - 100000000 * (k : Int) ≤ on'[i] ∧ on'[i] ≤ 1000000000 + 100000000 * (k : Int)) ∧ SH w0 [gon] w' [⟨g6, 76, [I n, .slice A l.length cap]⟩, ⟨gon, 3, on'.map I⟩]) (ks.length) (⟨t, 0, on, ks, rfl, by omega, rfl, rfl, hR, rfl, rfl, fun i h => by have := hob i h; omega, H⟩) ?_
 clear H
 rintro g u w ⟨v, k, on', xs, hg, hk, h12, h13, hP, hol, hm, hob', H⟩
 refine WP.know (t := 12) h12 (WP.know (t := 13) h13 ?_)
 refine Y.q <| Y.qr <| Y.v (Y.m rfl) <| Y.v (Y.f rfl rfl) <| Y.v (Y.l H 0 rfl rfl rfl) <| Y.v (Ev.lss rfl rfl) <| Y.v (Ev.mvB rfl) <| Y.g rfl rfl (fun hg => Y.m rfl) <| Y.g rfl rfl (fun hg => Y.m rfl) <| Y.g rfl rfl (fun hg => Ev.neq (gvE hg rfl) (gvE hg rfl)) <| Y.v (Ev.pickAnd rfl rfl rfl) <| Y.z ?_
 refine WP.cond rfl (fun hc3 => ?_) (fun hc3 => ?_)
 ·have hvs : v ≠ s := by intro he; subst he; simp at hc3
  obtain ⟨x, xs, rfl⟩ : ∃ x xs', xs = x :: xs' := by
   cases xs with
   | nil => exact absurd hP hvs
   | cons x xs => exact ⟨x, xs, rfl⟩
  obtain ⟨rfl, _, hvn, p, i, fw, q, w1, hp, hE, hst, hP⟩ := hP
  have hsta := step_at (stp := stp) (v := v) (by omega) hE hst
  obtain ⟨hi, hi2, eF, eB⟩ := hE
  have hstl : stp ≠ [] := List.ne_nil_of_length_pos (by omega)
  have hll0 : l ≠ [] := List.ne_nil_of_length_pos (by omega)
  obtain ⟨b3, o3, rfl, hxs⟩ := hc v (by omega)
  have hb3 : b3 ∉ [gon] := hCo hstl b3 o3 rfl
  have hsv : stp[v]'(by omega) = encS i fw := by rw [← hst]; simp [dAt, hsl, hvn]
  obtain ⟨b, o, rfl, hcc⟩ := hz i hi
  have hb1 : b ∉ [gon] := hAo hll0 b o rfl
  obtain ⟨c0, c1, c2, c3, _⟩ := hcc
  have hbi := hob' i (by omega)
  simp only [List.length_cons] at hg hk
  have hgd2 : on'.getD i 0 = on'[i]'(by omega) := by simp [hol, hon, hi]
  have hii : i < on'.length := by omega
  refine Y.k <| Y.q <| WP.block <| Y.qr <| Y.v (Ev.mvS rfl) <| Y.v (Y.m rfl) <| Y.v (Y.x rfl rfl rfl rfl) <| Y.v (Y.c (H.ldS (by assumption) (by assumption)) rfl) ?_
  refine Y.v (Ev.asI rfl) <| Y.z <| Y.qr <| Y.v (Y.m rfl) <| Y.v (Ev.gtr rfl rfl) <| Y.z ?_
  refine WP.cond rfl (fun hc6 => ?_) (fun hc6 => ?_)
  ·have hfw : fw = true := by
    cases fw with
    | true => rfl
    | false => rw [hsv] at hc6; unfold encS at hc6; simp at hc6 <;> omega
   obtain ⟨g1, g2, g3, g4, _⟩ := eF hfw
   have hsv1 : stp[v]'(by omega) = (i : Int) + 1 := by rw [hsv, hfw]; rfl
   rw [g1] at c0
   have hp1 : push1 (stp.map (rstep l on0)) M on' v = on'.set i (on'[i] + M) := by simp only [push1, hsta, Int.toNat_natCast, hgd2, hfw, if_true]
   refine Y.qr ?_
   have hxc := (onesOwn H 1 rfl).atK (show i < on'.length by omega)
   refine Y.v (Ev.mvS rfl) <| Y.v (Y.m rfl) <| Y.v (Y.s rfl rfl) <| Y.v (Ev.mvS rfl) <| Y.v (Y.m rfl) <| Y.v (Y.s rfl rfl) <| Y.v (Ev.indexAddr1 (j := i) (el_run rfl) (size_run rfl) rfl rfl (by omega) (by omega)) <| Y.v (Y.c (by assumption) rfl) ?_
   refine Y.v (Y.m rfl) <| Y.v (Y.p rfl rfl) <| Y.v (Ev.indexAddr1 (j := i) (el_run rfl) (size_run rfl) rfl rfl (by omega) (by omega)) ?_
   have hpu : putL (on'.map I) (0 + i) [I (on'[i] + M)] = (on'.set i (on'[i] + M)).map I := by rw [Nat.zero_add, putL_ones]
   refine OPS.store (vs := [I (on'[i] + M)]) 1 _ rfl rfl rfl (size_run rfl) rfl (cI rfl) rfl rfl H rfl (by simp only [List.length_map]; omega) ?_
   clear H; intro w H
   simp only [List.set_cons_zero, List.set_cons_succ] at H
   rw [hpu, ← hp1] at H
   refine Y.z <| Y.r <| Y.v (Y.f rfl rfl) <| Y.v (Y.l H 0 rfl rfl rfl) <| Y.v (Y.m rfl) <| Y.v (Y.s rfl rfl) <| Y.v (Ev.indexAddr (j := i) (el_run rfl) (size_run rfl) rfl rfl (by omega) hi) <| Y.v (Y.f rfl rfl) <| Y.v (Y.c (H.ldS (by assumption) (by assumption)) rfl) ?_
   refine Y.v (Ev.asI rfl) <| Y.z <| Y.r <| Y.v (Y.m rfl) <| Y.v (Y.p rfl rfl) <| Y.v (Ev.asI rfl) <| Y.z ?_
   refine ⟨(by repeat (first | exact Agree.refl _ _ | exact Agree.mix _ _ _ | refine Agree.upd rfl ?_ | refine Agree.mix2 rfl ?_)), xs.length, by omega, p, k + 1, push1 (stp.map (rstep l on0)) M on' v, xs, rfl, by omega, rfl, rfl, hP, by rw [push1_length]; exact hol, by rw [← hm]; simp only [pushOn, List.foldl_cons], fun y hy => ?_, H⟩
   have hy2 : y < on'.length := by rw [push1_length] at hy; exact hy
   have hh := hob' y hy2
   simp only [hp1, List.getElem_set]
   split
   ·rename_i he; subst he; omega
   ·omega
  have hfw : fw = false := by
   cases fw with
   | false => rfl
   | true => rw [hsv] at hc6; unfold encS at hc6; simp at hc6 <;> omega
  obtain ⟨g1, g2, g3, g4, _⟩ := eB hfw
  have hsv1 : stp[v]'(by omega) = -(i : Int) - 1 := by rw [hsv, hfw]; rfl
  rw [g1] at c1
  have hp1 : push1 (stp.map (rstep l on0)) M on' v = on'.set i (on'[i] - M) := by simp only [push1, hsta, Int.toNat_natCast, hgd2, hfw]; rfl
  refine Y.qr ?_
  have hxc := (onesOwn H 1 rfl).atK (show i < on'.length by omega)
  refine Y.v (Ev.mvS rfl) <| Y.v (Y.m rfl) <| Y.v (Ev.neg rfl (by unfold fits; omega)) <| Y.v (Y.s rfl rfl) <| Y.v (Ev.mvS rfl) <| Y.v (Y.m rfl) <| Y.v (Ev.neg rfl (by unfold fits; omega)) <| Y.v (Y.s rfl rfl) <| Y.v (Ev.indexAddr1 (j := i) (el_run rfl) (size_run rfl) rfl rfl (by omega) (by omega)) <| Y.v (Y.c (by assumption) rfl) ?_
  refine Y.v (Y.m rfl) <| Y.v (Y.s rfl rfl) <| Y.v (Ev.indexAddr1 (j := i) (el_run rfl) (size_run rfl) rfl rfl (by omega) (by omega)) ?_
  have hpu : putL (on'.map I) (0 + i) [I (on'[i] - M)] = (on'.set i (on'[i] - M)).map I := by rw [Nat.zero_add, putL_ones]
  refine OPS.store (vs := [I (on'[i] - M)]) 1 _ rfl rfl rfl (size_run rfl) rfl (cI rfl) rfl rfl H rfl (by simp only [List.length_map]; omega) ?_
  clear H; intro w H
  simp only [List.set_cons_zero, List.set_cons_succ] at H
  rw [hpu, ← hp1] at H
  refine Y.z <| Y.r <| Y.v (Y.f rfl rfl) <| Y.v (Y.l H 0 rfl rfl rfl) <| Y.v (Y.m rfl) <| Y.v (Ev.neg rfl (by unfold fits; omega)) <| Y.v (Y.s rfl rfl) <| Y.v (Ev.indexAddr (j := i) (el_run rfl) (size_run rfl) rfl rfl (by omega) hi) <| Y.v (Y.f rfl rfl) <| Y.v (Y.c (H.ldS (by assumption) (by assumption)) rfl) ?_
  refine Y.v (Ev.asI rfl) <| Y.z <| Y.r <| Y.v (Y.m rfl) <| Y.v (Y.p rfl rfl) <| Y.v (Ev.asI rfl) <| Y.z ?_
  refine ⟨(by repeat (first | exact Agree.refl _ _ | exact Agree.mix _ _ _ | refine Agree.upd rfl ?_ | refine Agree.mix2 rfl ?_)), xs.length, by omega, p, k + 1, push1 (stp.map (rstep l on0)) M on' v, xs, rfl, by omega, rfl, rfl, hP, by rw [push1_length]; exact hol, by rw [← hm]; simp only [pushOn, List.foldl_cons], fun y hy => ?_, H⟩
  have hy2 : y < on'.length := by rw [push1_length] at hy; exact hy
  have hh := hob' y hy2
  simp only [hp1, List.getElem_set]
  split
  ·rename_i he; subst he; omega
  ·omega
 refine WP.exit <| XB.hit <| ⟨_, rfl, ?_⟩
 have hvs : v = s := by
  cases xs with
  | nil => exact hP
  | cons x xs =>
   simp only [List.length_cons] at hk
   by_cases h : v = s
   ·exact h
   ·exfalso
    have h1 : ¬ ((v : Int) = s) := by omega
    have h2 : (k : Int) < n := by omega
    simp [h1, h2] at hc3
 have hxs : xs = [] := by
  cases xs with
  | nil => rfl
  | cons x xs => exact absurd hvs hP.2.1
 subst hxs
 rw [← hm]
 exact ⟨rfl, H.drop (List.sublist_cons_self _ _)⟩
end Go.Proofs.Ytgjfjbphngamgaa.Flo

/-
 Walks: the reference's filled, Most, Cut, Cost.
-/
set_option linter.all false
namespace Go.Proofs.Ytgjfjbphngamgaa.Flo
open Go Go.W Go.RowKit
/-- what filled returns -/
structure FillR (m s t : Nat) (l : List Arc) (most : Int) (on : List Int) (amt : Int) : Prop where
 flow : IsFlow m l s t on amt
 opt : ∃ pots : List Int, pots.length = m ∧ pots.getD s 0 = 0 ∧ OptPot (potF pots) l on
 le : 0 ≤ amt ∧ amt ≤ most
 fin : amt = most ∨ IsMax m l s t amt
theorem costOf_bd' {n : Nat} {l : List Arc} {on : List Int} (hN : NetOk n l) (hV : VFlow l on) : 0 ≤ costOf l on ∧ costOf l on ≤ 2199023255552 := by
 have h := costOf_bd hN hV l.length (Nat.le_refl _)
 rw [List.take_length, ← hV.len, List.take_length, hV.len] at h
 have := hN.len
 omega
theorem costOf_zero : ∀ l : List Arc, costOf l (List.replicate l.length 0) = 0
 | [] => rfl
 | a :: l => by simp only [List.length_cons, List.replicate_succ, costOf]; rw [costOf_zero l]; simp
theorem zget (m s : Nat) : (List.replicate m (0 : Int)).getD s 0 = 0 := by by_cases h : s < m <;> simp [h]
set_option maxHeartbeats 2000000 in
theorem refFilled (m s t : Nat) (most : Int) (A : Option Addr) (l : List Arc) (cap : Nat) (w0 : World) (hN : NetOk m l) (hs : s < m) (ht : t < m) (hst : s ≠ t) (hmo : 0 ≤ most ∧ most ≤ 33554432) (hz : ArcsAt w0 A l) :
  Calls Try.prog 44 #[.agg #[I m, .slice A l.length cap], I s, I t, I most] w0 fun e w' => ∃ (gon : Nat) (on : List Int) (amt : Int), e = .returned (.tuple #[.slice (some ⟨gon, 0, none⟩) l.length l.length, I amt, I (costOf l on)]) ∧ FillR m s t l most on amt ∧ SH w0 [] w' [⟨gon, 3, on.map I⟩] := by
 have H := SH.refl w0
 have hn2 := hN.n2
 have hll := hN.len
 refine Calls.ofWP Try.func44 rfl Try.results44 Try.ntmps44 rfl <| Y.qr <| Y.bx (cA rfl) H ?_
 clear H; intro g4 w H
 refine Y.v (Ev.asS rfl) <| Y.v (Ev.asI rfl) <| Y.v (Ev.asI rfl) <| Y.z <| Y.qr <| Y.v (Y.f rfl rfl) <| Y.v (Y.l H 0 rfl rfl rfl) <| Y.v (Y.n rfl) <| OPS.makeSlice rfl rfl rfl rfl (sl_run rfl) rfl rfl rfl (by omega) (by omega) H ?_
 clear H; intro g20 w H
 refine Y.v (Ev.asS rfl) <| Y.z <| Y.qr <| Y.v (Ev.asI rfl) <| Y.v (Ev.asI rfl) <| Y.z <| Y.q <| WP.block <| WP.loop [12, 13, 14, 15, 16, 21, 22, 23, 24, 25, 26, 27, 28, 29, 30, 31, 32, 33, 34, 35, 36, 37, 38, 39, 40, 41, 42, 43, 44, 45, 46, 47, 48, 49, 50, 51, 52, 53, 54, 55, 56, 57, 58, 59, 60, 61, 62] (fun k e w' => ∃ (on pots : List Int) (amt : Int), on.length = l.length ∧ e 12 = I amt ∧ e 13 = I (costOf l on) ∧ IsFlow m l s t on amt ∧ pots.length = m ∧ pots.getD s 0 = 0 ∧ OptPot (potF pots) l on ∧ 0 ≤ amt ∧ amt ≤ most ∧ amt + k = most ∧ SH w0 [] w' [⟨g20, 3, on.map I⟩, ⟨g4, 76, [I m, .slice A l.length cap]⟩]) (most.toNat) (⟨List.replicate l.length 0, List.replicate m 0, 0, by simp, rfl, by rw [costOf_zero]; rfl, zero_isFlow fun a ha => (hN.caps a ha).1.1, by simp, zget m s, zero_opt fun a ha => (hN.caps a ha).2.1, by omega, hmo.1, by omega, by rw [← mkL_ones]; exact H⟩) ?_
 clear H
 rintro k u w ⟨on, pots, amt, hol, h12, h13, hfl, hpl, hp0, hop, ha0, ha1, hk, H⟩
 refine WP.know (t := 12) h12 (WP.know (t := 13) h13 ?_)
 have hcb := costOf_bd' hN hfl.v
 refine Y.q <| Y.qr <| Y.v (Y.m rfl) <| Y.v (Y.m rfl) <| Y.v (Ev.lss rfl rfl) <| Y.z ?_
 refine WP.cond rfl (fun hc3 => ?_) (fun hc3 => ?_)
 ·have hlt : amt < most := by simpa using hc3
  obtain ⟨nst, ndist, nrk, hnr⟩ := near_exists hN.nodes hll (fun a ha => (hN.caps a ha).2) hop hol hs hp0
  have hsp := hnr.sp hp0 fun a ha => (hN.caps a ha).2
  have hob : ∀ i (h : i < on.length), 0 ≤ on[i] ∧ on[i] ≤ 65536 := fun i h => by
   have h1 := hfl.v.bd i (by omega) h
   have h2 := (hN.caps l[i] (List.getElem_mem (by omega))).1
   omega
  refine Y.k <| WP.block <| Y.qr <| Y.v (Y.o H 1 rfl rfl) <| Y.v (Ev.mvS rfl) <| Y.v (Y.m rfl) ?_
  have hch := refCheap m s A (some ⟨g20, 0, none⟩) l on cap l.length _ _ _ w hN hs hfl.v (hz.sh H) (onesOwn H 0 rfl) hsp
  rw [hol] at hch
  refine OPS.call (d := some 28) rfl rfl rfl (EvC.func (fun_run rfl)) (hch) ?_
  rintro _ w ⟨gd, gs, d, stp, T, rfl, hcr, Hc⟩
  refine ⟨_, rfl, ?_⟩
  replace H := SH.call (L1 := [⟨g20, 3, on.map I⟩, ⟨g4, 76, [I m, .slice A l.length cap]⟩]) (Lv := []) (by simpa using H) Hc
  clear Hc hch
  simp only [List.cons_append, List.nil_append] at H
  have hdl := hcr.dlen
  have hsl := hcr.stlen
  have hdt : dAt d t = d[t]'(by omega) := by simp [dAt, hdl, ht]
  refine Y.v (Ev.mvT rfl) <| Y.v (Ev.extract rfl rfl) <| Y.v (Ev.extract rfl rfl) <| Y.v (Ev.asS rfl) <| Y.v (Ev.asS rfl) <| Y.z <| Y.q <| Y.qr ?_
  obtain ⟨_, _, e1, hdc⟩ := onesOwn H 2 rfl t (by omega)
  cases e1
  refine Y.v (Ev.mvS rfl) <| Y.v (Y.m rfl) <| Y.v (Y.x rfl rfl rfl rfl) <| Y.v (Y.c (by assumption) rfl) ?_
  refine Y.v (Ev.geq rfl rfl) <| Y.z ?_
  refine WP.cond rfl (fun hc5 => ?_) (fun hc5 => ?_)
  ·have hkf : kn nst t = false := by
    cases hk2 : kn nst t with
    | false => rfl
    | true =>
     have := hcr.kd t ht hk2
     rw [hdt] at this
     simp at hc5
     unfold farI at this; omega
   have hend : amt = most ∨ IsMax m l s t amt := .inr (res_isMax hN.nodes hs hfl (hcr.resSet hN.nodes hol hs) hkf)
   refine WP.exit <| XB.miss rfl <| XB.hit <| Y.qr <| Y.v (Ev.mvS rfl) <| Y.v (Y.m rfl) <| Y.v (Y.m rfl) <| Y.v (Ev.asS rfl) <| Y.v (Ev.asI rfl) <| Y.v (Ev.asI rfl) <| Y.z ?_
   refine WP.ret ⟨_, rfl, ?_⟩
   exact ⟨g20, on, amt, rfl, ⟨hfl, ⟨pots, hpl, hp0, hop⟩, ⟨ha0, ha1⟩, hend⟩, by exact H.reidx [0] (by decide) rfl⟩
  have hkt : kn nst t = true := by
   cases hk2 : kn nst t with
   | true => rfl
   | false =>
    have := hcr.unk t ht hk2
    rw [hdt] at this
    simp at hc5
    unfold farI at this; omega
  obtain ⟨ks, hkl, hR, hP, hks⟩ := hcr.path m t ht hkt (hcr.tb t ht hkt).2
  obtain ⟨m1, m2, m3⟩ := pushMin_spec (stp.map (rstep l on)) ks (most - amt) (by omega) fun x hx => by obtain ⟨p, _, hE⟩ := hP.edge x hx; exact hE.room_pos
  have hfl2 := push_isFlow (by omega) hst hP m3 hfl
  have hop2 := CR.push_opt hnr hcr hop hN.nodes hpl hol hks (pushMin (stp.map (rstep l on)) ks (most - amt))
  have hpc := hcr.push_cost hfl.v hP hks (by omega) m3
  have hDt := (hcr.kd t ht hkt).1
  have hDb := hsp.bd t ht hkt
  have hpb := costOf_bd' hN hfl2.v
  rw [← hDt, hdt] at hpc
  have hnl := newL_length nst ndist (farTo nst ndist m) pots
  have hn0 : (newL nst ndist (farTo nst ndist m) pots).getD s 0 = 0 := by rw [newL_at (by omega), if_pos hnr.src.1, hnr.src.2, hp0]; rfl
  have hrm := fun w (H : SH w0 [] w [⟨g20, 3, on.map I⟩, ⟨g4, 76, [I m, .slice A l.length cap]⟩, ⟨gd, 3, d.map I⟩, ⟨gs, 3, stp.map I⟩]) => refRoom m s t (most - amt) A (some ⟨g20, 0, none⟩) (some ⟨gs, 0, none⟩) l on stp cap l.length m ks w hN hfl.v (hz.sh H) (onesOwn H 0 rfl) (onesOwn H 3 rfl) hsl hR hkl
  rw [hol, hsl] at hrm
  generalize hMM : pushMin (stp.map (rstep l on)) ks (most - amt) = M at *
  refine Y.k <| Y.qr <| Y.v (Y.o H 1 rfl rfl) <| Y.v (Ev.mvS rfl) <| Y.v (Ev.mvS rfl) <| Y.v (Y.m rfl) <| Y.v (Y.m rfl) <| Y.v (Y.m rfl) <| Y.v (Y.m rfl) <| Y.v (Y.s rfl rfl) <| OPS.call (d := some 44) rfl rfl rfl (EvC.func (fun_run rfl)) (hrm w H) ?_
  rintro _ w ⟨rfl, hb⟩
  refine ⟨_, rfl, ?_⟩
  replace H := H.toBelow hb; clear hb
  refine Y.v (Ev.asI rfl) <| Y.z <| Y.qr <| Y.v (Y.o H 1 rfl rfl) <| Y.v (Ev.mvS rfl) <| Y.v (Ev.mvS rfl) <| Y.v (Y.m rfl) <| Y.v (Y.m rfl) <| Y.v (Y.m rfl) ?_
  have hgs : gs ≠ g20 := by have := H.nodup; simp at this; exact fun he => by subst he; simp at this
  have hpu := refPush g20 m s t M A (some ⟨gs, 0, none⟩) l on on stp cap l.length m ks w hN hol (hz.sh H) (hz.off (fun _ => by simp [arcCells]) (fun g hg => by simp at hg; rw [hg]; exact H.fresh g20 (by simp))) (onesOwn H 3 rfl) (fun _ b o he => by cases he; simpa using hgs) hsl hR hkl (by omega) (fun i h => by have := hob i h; omega) ((H.reidx (L' := [⟨g20, 3, on.map I⟩]) [0] (by decide) rfl).restart (List.Sublist.refl _))
  rw [hol, hsl] at hpu
  refine OPS.call (d := some 51) rfl rfl rfl (EvC.func (fun_run rfl)) (hpu) ?_
  rintro _ w ⟨rfl, Hc⟩
  refine ⟨_, rfl, ?_⟩
  replace H := SH.call (L1 := [⟨g4, 76, [I m, .slice A l.length cap]⟩, ⟨gd, 3, d.map I⟩, ⟨gs, 3, stp.map I⟩]) (Lv := [⟨g20, 3, on.map I⟩]) (H.reidx [1, 2, 3, 0] (by decide) rfl) Hc
  clear Hc hpu
  refine Y.z <| WP.rstill mixed (by kernel_rfl) H ?_
  clear H; intro w hbw8 H
  obtain ⟨_, _, e1, hdc⟩ := onesOwn H 1 rfl t (by omega)
  cases e1
  refine Y.v (Y.m rfl) <| Y.v (Y.m rfl) <| Y.v (Y.p rfl rfl) <| Y.v (Y.m rfl) <| Y.v (Y.m rfl) <| Y.v (Ev.mvS rfl) <| Y.v (Y.m rfl) <| Y.v (Y.x rfl rfl rfl rfl) <| Y.v (Y.c (by assumption) rfl) ?_
  refine Y.v (Ev.mul rfl rfl (by unfold fits; omega)) <| Y.v (Y.p rfl rfl) <| Y.v (Ev.asI rfl) <| Y.v (Ev.asI rfl) <| OPS.nil_s ?_
  exact ⟨(by repeat (first | exact Agree.refl _ _ | exact Agree.mix _ _ _ | refine Agree.upd rfl ?_ | refine Agree.mix2 rfl ?_)), k - M.toNat, by omega, _, _, amt + M, by rw [pushOn_length]; exact hol, rfl, by rw [hpc]; rfl, hfl2, by rw [hnl]; exact hpl, hn0, hop2, by omega, by omega, by omega, H.reidx [3, 0] (by decide) rfl⟩
 have hend : amt = most ∨ IsMax m l s t amt := .inl (by simp at hc3; omega)
 refine WP.exit <| XB.hit <| Y.qr <| Y.v (Ev.mvS rfl) <| Y.v (Y.m rfl) <| Y.v (Y.m rfl) <| Y.v (Ev.asS rfl) <| Y.v (Ev.asI rfl) <| Y.v (Ev.asI rfl) <| Y.z ?_
 refine WP.ret ⟨_, rfl, ?_⟩
 exact ⟨g20, on, amt, rfl, ⟨hfl, ⟨pots, hpl, hp0, hop⟩, ⟨ha0, ha1⟩, hend⟩, by exact H.reidx [0] (by decide) rfl⟩
end Go.Proofs.Ytgjfjbphngamgaa.Flo

/-
 Walks: the reference's Most, Cut, Cost.
-/
set_option linter.all false
namespace Go.Proofs.Ytgjfjbphngamgaa.Flo
open Go Go.W Go.RowKit
theorem max_from {n s t : Nat} {l : List Arc} (hN : NetOk n l) (hs : s < n) (ht : t < n) (hst : s ≠ t) : ∀ (k : Nat) (on : List Int) (amt : Int), IsFlow n l s t on amt → 65536 * (l.length : Int) - amt ≤ k → ∃ mx, IsMax n l s t mx
 | 0, on, amt, hf, hk => ⟨amt, full_isMax hN.nodes hs ht hst hf fun on' amt' hf' => by have := amt_le hN ⟨by omega, by omega⟩ (by omega) hf'; omega⟩
 | k + 1, on, amt, hf, hk => by
  have hsp := reachFin_spec (s := s) (on := on) hN.nodes hf.v.len hs
  cases hkt : kn (reachFin l on n s) t with
  | false => exact ⟨amt, reached_isMax hN.nodes hs hsp hf hkt⟩
  | true =>
   obtain ⟨ks, _, hP⟩ := path_of hsp.tree n t ht hkt (hsp.pos t ht hkt).2
   obtain ⟨m1, m2, m3⟩ := pushMin_spec (reachFin l on n s) ks 1 (by omega) fun x hx => by obtain ⟨p, _, hE⟩ := hP.edge x hx; exact hE.room_pos
   exact max_from hN hs ht hst k _ _ (push_isFlow (by omega) hst hP m3 hf) (by omega)
theorem max_exists {n s t : Nat} {l : List Arc} (hN : NetOk n l) (hs : s < n) (ht : t < n) (hst : s ≠ t) : ∃ mx, IsMax n l s t mx :=
 max_from hN hs ht hst (65536 * l.length) _ 0 (zero_isFlow fun a ha => (hN.caps a ha).1.1) (by omega)
theorem IsMax.ge {n s t : Nat} {l : List Arc} {mx : Int} (h : IsMax n l s t mx) (hn : NodesOk n l) (hs : s < n) {on : List Int} {amt : Int} (hf : IsFlow n l s t on amt) : amt ≤ mx := by
 obtain ⟨_, S, h1, h2, h3⟩ := h
 rw [← h3]; exact weak_dual hf hn ⟨by omega, by omega⟩ h1 h2
/-- what Cost returns -/
structure CostRet (n f t amt : Int) (l : List Arc) (most c er : Int) : Prop where
 mst : MostRet n f t l most (endsErr n l f t)
 err : er = cheapErr n f t amt l most
 bad : er ≠ 0 → c = 0
 good : er = 0 → ∃ m s d : Nat, EndsOk n f t l m s d ∧ IsLeast m l s d amt c
theorem refCost (n f t amt : Int) (A : Option Addr) (l : List Arc) (cap : Nat) (w0 : World) (hz : ArcsAt w0 A l) :
  Calls Try.prog 43 #[.agg #[I n, .slice A l.length cap], I f, I t, I amt] w0 fun e w' => ∃ most c er : Int, e = .returned (.tuple #[I c, I er]) ∧ CostRet n f t amt l most c er ∧ Below w0.heap.size w0 w' := by
 have H := SH.refl w0
 refine Calls.ofWP Try.func43 rfl Try.results43 Try.ntmps43 rfl <| Y.qr <| Y.bx (cA rfl) H ?_
 clear H; intro g4 w H
 refine Y.v (Ev.asI rfl) <| Y.v (Ev.asI rfl) <| Y.z <| Y.q <| Y.qr <| Y.v (Y.o H 0 rfl rfl) <| Y.v (Y.m rfl) <| Y.v (Y.m rfl) <| OPS.call (d := some 17) rfl rfl rfl (EvC.func (fun_run rfl)) (refEnds n f t A l cap w (hz.sh H)) ?_
 rintro _ w ⟨rfl, hb⟩
 refine ⟨_, rfl, ?_⟩
 replace H := H.toBelow hb; clear hb
 refine Y.v (Ev.asI rfl) <| Y.z <| Y.qr <| Y.v (Y.m rfl) <| Y.v (Ev.neq rfl rfl) <| Y.z ?_
 refine WP.cond rfl (fun hc2 => ?_) (fun hc2 => ?_)
 ·refine Y.qr <| Y.v (Y.m rfl) <| Y.v (Ev.asI rfl) <| Y.v (Ev.asI rfl) <| Y.z ?_
  refine WP.ret ⟨_, rfl, ?_⟩
  have h : endsErr n l f t ≠ 0 := by simpa using hc2
  exact ⟨0, 0, _, rfl, ⟨⟨rfl, fun _ => rfl, fun h0 => absurd h0 h⟩, by rw [cheapErr, if_pos h], fun _ => rfl, fun h0 => absurd h0 h⟩, H.below⟩
 have h0 : endsErr n l f t = 0 := by simpa using hc2
 obtain ⟨m, s, d, hE⟩ := endsOk_of h0
 have e1 := hE.hn
 have e2 := hE.hf
 have e3 := hE.ht
 subst e1 e2 e3
 have hN := hE.net
 obtain ⟨mx, hmx⟩ := max_exists hN hE.s1 hE.d1 hE.ne
 have hMR : MostRet m s d l mx (endsErr m l s d) := ⟨rfl, fun h => absurd h0 h, fun _ => ⟨m, rfl, hmx⟩⟩
 refine Y.k <| Y.q <| Y.qr <| Y.v (Y.m rfl) <| Y.v (Ev.lss rfl rfl) <| Y.v (Ev.mvB rfl) <| Y.g rfl rfl (fun hg => Y.m rfl) <| Y.g rfl rfl (fun hg => Ev.gtr (gvE hg rfl) rfl) <| Y.v (Ev.pickOr rfl rfl rfl) <| Y.z ?_
 refine WP.cond rfl (fun hc4 => ?_) (fun hc4 => ?_)
 ·refine Y.qr <| Y.v (Ev.asI rfl) <| Y.v (Ev.asI rfl) <| Y.z ?_
  refine WP.ret ⟨_, rfl, ?_⟩
  exact ⟨mx, 0, 1, rfl, ⟨hMR, by rw [cheapErr, if_neg (by simp [h0]), if_pos hc4], fun _ => rfl, fun h => by cases h⟩, H.below⟩
 have ham : 0 ≤ amt ∧ amt ≤ 65536 := by simp at hc4; omega
 refine Y.k <| Y.qr <| Y.v (Y.o H 0 rfl rfl) <| Y.v (Y.m rfl) <| Y.v (Y.m rfl) <| Y.v (Y.m rfl) <| OPS.call (d := some 32) rfl rfl rfl (EvC.func (fun_run rfl)) (refFilled m s d amt A l cap w hE.net hE.s1 hE.d1 hE.ne (by omega) (hz.sh H)) ?_
 rintro _ w ⟨gon, on, got, rfl, hF, Hc⟩
 refine ⟨_, rfl, ?_⟩
 replace H := SH.call (Lv := []) (by simpa using H) Hc
 clear Hc
 have hge := hmx.ge hN.nodes hE.s1 hF.flow
 refine Y.v (Ev.mvT rfl) <| Y.v (Ev.extract rfl rfl) <| Y.v (Ev.extract rfl rfl) <| Y.v (Ev.extract rfl rfl) <| Y.v (Ev.asS rfl) <| Y.v (Ev.asI rfl) <| Y.v (Ev.asI rfl) <| Y.z <| Y.q <| Y.qr <| Y.v (Y.m rfl) <| Y.v (Y.m rfl) <| Y.v (Ev.lss rfl rfl) <| Y.z ?_
 refine WP.cond rfl (fun hc7 => ?_) (fun hc7 => ?_)
 ·refine Y.qr <| Y.v (Ev.asI rfl) <| Y.v (Ev.asI rfl) <| Y.z ?_
  refine WP.ret ⟨_, rfl, ?_⟩
  have hlt : got < amt := by simpa using hc7
  have hm2 : mx = got := by
   rcases hF.fin with he | he
   ·omega
   ·exact IsMax.unique hN.nodes ⟨by omega, by have := hE.s1; omega⟩ hmx he
  exact ⟨mx, 0, 15, rfl, ⟨hMR, by rw [cheapErr, if_neg (by simp [h0]), if_neg (by simp [hc4]), if_pos (by omega)], fun _ => rfl, fun h => by cases h⟩, H.below⟩
 refine Y.k <| Y.qr <| Y.v (Y.m rfl) <| Y.v (Ev.asI rfl) <| Y.v (Ev.asI rfl) <| Y.z ?_
 refine WP.ret ⟨_, rfl, ?_⟩
 have hga : got = amt := by simp at hc7; have := hF.le; omega
 subst hga
 obtain ⟨pots, _, _, hop⟩ := hF.opt
 exact ⟨mx, costOf l on, 0, rfl, ⟨hMR, by rw [cheapErr, if_neg (by simp [h0]), if_neg (by simp [hc4]), if_neg (by omega)], fun h => absurd rfl h, fun _ => ⟨m, s, d, hE, least_of hF.flow hop hN.nodes ⟨by omega, by have := hE.s1; omega⟩ ⟨by omega, by have := hE.d1; omega⟩ (by have := hE.ne; omega)⟩⟩, H.below⟩
end Go.Proofs.Ytgjfjbphngamgaa.Flo

/-
 Walks: the reference's potentials, Cheapest.
-/
set_option linter.all false
namespace Go.Proofs.Ytgjfjbphngamgaa.Flo
open Go Go.W Go.RowKit
/-- numbers from -B to 0 -/
def PB (n : Nat) (p : List Int) (B : Int) : Prop := p.length = n ∧ ∀ v (h : v < p.length), -B ≤ p[v] ∧ p[v] ≤ 0
theorem PB.mono {n : Nat} {p : List Int} {B B' : Int} (h : PB n p B) (hb : B ≤ B') : PB n p B' := ⟨h.1, fun v hv => by have := h.2 v hv; omega⟩
theorem PB.set {n : Nat} {p : List Int} {B B' : Int} {v : Nat} {x : Int} (h : PB n p B) (hx : -B' ≤ x ∧ x ≤ 0) (hb : B ≤ B') : PB n (p.set v x) B' :=
 ⟨by rw [List.length_set]; exact h.1, fun u hu => by
  rw [List.getElem_set]
  split
  ·exact hx
  ·have := h.2 u (by simpa using hu); omega⟩
theorem PB.init (n : Nat) : PB n (List.replicate n 0) 0 := ⟨by simp, fun v h => by simp⟩
set_option maxHeartbeats 1000000 in
theorem refPotentials (n : Nat) (A B : Option Addr) (l : List Arc) (on : List Int) (cap cap2 : Nat) (w0 : World) (hN : NetOk n l) (hol : on.length = l.length) (hz : ArcsAt w0 A l) (ho : IntsAt w0 B on) :
  Calls Try.prog 45 #[.agg #[I n, .slice A l.length cap], .slice B on.length cap2] w0 fun e w' => ∃ (gd : Nat) (p : List Int), e = .returned (.slice (some ⟨gd, 0, none⟩) n n) ∧ PB n p 2181038080 ∧ SH w0 [] w' [⟨gd, 3, p.map I⟩] := by
 have H := SH.refl w0
 have hn2 := hN.n2
 have hll := hN.len
 refine Calls.ofWP Try.func45 rfl Try.results45 Try.ntmps45 rfl <| Y.qr <| Y.bx (cA rfl) H ?_
 clear H; intro g2 w H
 refine Y.v (Ev.asS rfl) <| Y.z <| Y.qr <| Y.v (Y.f rfl rfl) <| Y.v (Y.l H 0 rfl rfl rfl) <| OPS.makeSlice rfl rfl rfl rfl (sl_run rfl) rfl rfl rfl (by omega) (by omega) H ?_
 clear H; intro g11 w H
 refine Y.v (Ev.asS rfl) <| Y.z <| Y.q <| Y.qr <| Y.v (Ev.asI rfl) <| Y.z <| WP.block <| WP.loop [6, 7, 8, 12, 13, 14, 15, 16, 17, 18, 19, 20, 21, 22, 23, 24, 25, 26, 27, 28, 29, 30, 31, 32, 33, 34, 35, 36, 37, 38, 39, 40, 41, 42, 43, 44, 45, 46, 47, 48, 49, 50, 51, 52, 53, 54, 55, 56, 57, 58, 59, 60, 61, 62, 63, 64, 65, 66, 67, 68, 69, 70, 71, 72, 73, 74, 75, 76, 77] (fun k e w' => ∃ (r : Nat) (p : List Int), r + k = n + 1 ∧ e 6 = I r ∧ SH w0 [] w' [⟨g11, 3, p.map I⟩, ⟨g2, 76, [I n, .slice A l.length cap]⟩] ∧ PB n p (33554432 * (r : Int))) (n + 1) (⟨0, List.replicate n 0, by omega, rfl, by rw [← mkL_ones]; exact H, PB.init n⟩) ?_
 clear H
 rintro k u w ⟨r, p, hk, h6, H, hP⟩
 refine WP.know (t := 6) h6 <| Y.q <| Y.qr <| Y.v (Y.m rfl) <| Y.v (Y.f rfl rfl) <| Y.v (Y.l H 1 rfl rfl rfl) <| Y.v (Ev.leq rfl rfl) <| Y.z ?_
 refine WP.cond rfl (fun hc3 => ?_) (fun hc3 => ?_)
 ·have hrn : r ≤ n := by simp at hc3; omega
  refine Y.k <| Y.q <| WP.block <| Y.qr <| Y.v (Ev.asI rfl) <| Y.z <| WP.block <| WP.loop [7, 8, 18, 19, 20, 21, 22, 23, 24, 25, 26, 27, 28, 29, 30, 31, 32, 33, 34, 35, 36, 37, 38, 39, 40, 41, 42, 43, 44, 45, 46, 47, 48, 49, 50, 51, 52, 53, 54, 55, 56, 57, 58, 59, 60, 61, 62, 63, 64, 65, 66, 67, 68, 69, 70, 71, 72, 73, 74, 75, 76, 77] (fun k2 e w' => ∃ (j : Nat) (p : List Int), j + k2 = l.length ∧ e 7 = I j ∧ SH w0 [] w' [⟨g11, 3, p.map I⟩, ⟨g2, 76, [I n, .slice A l.length cap]⟩] ∧ PB n p (33554432 * (r : Int) + 65536 * (j : Int))) (l.length) (⟨0, p, by omega, rfl, H, hP.mono (by omega)⟩) ?_
  clear H hP
  rintro k2 u2 w ⟨j, p, hk2, h7, H, hP⟩
  refine WP.know (t := 7) h7 <| Y.q <| Y.qr <| Y.v (Y.m rfl) <| Y.v (Y.f rfl rfl) <| Y.v (Y.l H 1 rfl rfl rfl) <| Y.v (Y.n rfl) <| Y.v (Ev.lss rfl rfl) <| Y.z ?_
  refine WP.cond rfl (fun hc6 => ?_) (fun hc6 => ?_)
  ·have hlt : j < l.length := by simp at hc6; omega
   have hlt2 : j < on.length := by omega
   obtain ⟨b, o, rfl, hc⟩ := hz j hlt
   obtain ⟨b2, o2, rfl, hx⟩ := ho j hlt2
   have hc' := cellsAt_sh H hc
   have h2 := hN.caps l[j] (List.getElem_mem _)
   obtain ⟨a, b', ham, hbm, hfa, htb, _, _⟩ := redge_of (on := on) hN.nodes hlt hlt2 p0
   refine Y.k <| Y.q <| WP.block <| Y.qr <| Y.v (Y.f rfl rfl) <| Y.v (Y.l H 1 rfl rfl rfl) <| Y.v (Y.m rfl) <| Y.v (Y.X rfl rfl rfl rfl rfl) <| Y.v (by (change Ev _ _ _ _ (Op.load 96 (Operand.tmp 28)) _; exact Ev.loadN (arcCells l[j]) (agg_run rfl) (size_run rfl) rfl hc')) <| Y.al H rfl rfl ?_
   clear H; intro g8 w H
   refine OPS.store 0 _ rfl rfl rfl (size_run rfl) rfl (cA rfl) rfl rfl H rfl (by simp) ?_
   clear H; intro w H; try simp only [List.set_cons_zero, List.set_cons_succ, putL, Nat.zero_add] at H
   refine Y.z <| Y.q <| Y.q ?_
   rw [show arcCells l[j] = [I a, I b', I l[j].cap, I l[j].cost] from by unfold arcCells; rw [hfa, htb]] at H
   refine WP.rstill mixed (by kernel_rfl) H ?_
   clear H; intro w hbw9 H
   refine Y.v (Ev.mvS rfl) <| Y.v (Y.m rfl) <| Y.v (Y.x rfl rfl rfl rfl) <| Y.v (Y.c (H.ld0 (by assumption)) rfl) ?_
   refine Y.v (Y.f rfl rfl) <| Y.v (Y.l H 0 rfl rfl rfl) <| Y.v (Ev.lss rfl rfl) <| OPS.nil_s ?_
   refine WP.cut [37, 38, 39, 40, 41, 42, 43, 44, 45, 46, 47, 48, 49, 50, 51, 52, 53, 54] (fun _ w' => ∃ (p : List Int), SH w0 [] w' [⟨g8, 96, [I a, I b', I l[j].cap, I l[j].cost]⟩, ⟨g11, 3, p.map I⟩, ⟨g2, 76, [I n, .slice (some ⟨b, o, none⟩) l.length cap]⟩] ∧ PB n p (33554432 * (r : Int) + 65536 * (j : Int))) ?_ ?_
   ·refine WP.cond rfl (fun hc9 => ?_) (fun hc9 => ?_)
    ·have hpl := hP.1
     have hpu : ∀ v x, putL (p.map I) (0 + v) [I x] = (p.set v x).map I := fun v x => by rw [Nat.zero_add, putL_ones]
     have hpa := hP.2 a (by omega)
     have hpb := hP.2 b' (by omega)
     refine WP.rtail 18 mixed (by kernel_rfl) H ?_
     clear H; intro w hbw10 H
     obtain ⟨_, _, e1, hxa⟩ := onesOwn H 1 rfl a (by omega)
     cases e1
     obtain ⟨_, _, e1, hxb⟩ := onesOwn H 1 rfl b' (by omega)
     cases e1
     refine Y.v (Ev.mvS rfl) <| Y.v (Y.f rfl rfl) <| Y.v (Y.l H 0 rfl rfl rfl) <| Y.v (Ev.mvS rfl) <| Y.v (Y.f rfl rfl) <| Y.v (Y.l H 0 rfl rfl rfl) <| Y.v (Y.x rfl rfl rfl rfl) <| Y.v (Y.c (by assumption) rfl) ?_
     refine Y.v (Ev.mvS rfl) <| Y.v (Y.f rfl rfl) <| Y.v (Y.l H 0 rfl rfl rfl) <| Y.v (Y.x rfl rfl rfl rfl) <| Y.v (Y.c (by assumption) rfl) ?_
     refine Y.v (Y.f rfl rfl) <| Y.v (Y.l H 0 rfl rfl rfl) <| Y.v (Y.p rfl rfl) <| Y.v (Ev.min rfl rfl) <| Y.v (Y.x rfl rfl rfl rfl) <| OPS.nil_s <| OPS.store 1 _ rfl rfl rfl (size_run rfl) rfl (cI rfl) rfl rfl H rfl (by simp only [List.length_map]; omega) ?_
     clear H; intro w H
     simp only [List.set_cons_zero, List.set_cons_succ] at H
     rw [hpu] at H
     refine Y.z ?_
     exact ⟨(by repeat (first | exact Agree.refl _ _ | exact Agree.mix _ _ _ | refine Agree.upd rfl ?_ | refine Agree.mix2 rfl ?_)), _, H, hP.set (by split <;> omega) (by omega)⟩
    refine Y.k ?_
    exact ⟨(by repeat (first | exact Agree.refl _ _ | exact Agree.mix _ _ _ | refine Agree.upd rfl ?_ | refine Agree.mix2 rfl ?_)), _, H, hP⟩
   clear H hP
   rintro u3 w ⟨p, H, hP⟩
   have hpl := hP.1
   have hpu : ∀ v x, putL (p.map I) (0 + v) [I x] = (p.set v x).map I := fun v x => by rw [Nat.zero_add, putL_ones]
   refine Y.qr <| Y.v (Ev.mvS rfl) <| Y.v (Y.m rfl) <| Y.v (Y.x rfl rfl rfl rfl) <| Y.v (Y.c (H.ld0 (by assumption)) rfl) ?_
   refine Y.v (Ev.gtr rfl rfl) <| Y.z ?_
   refine WP.cond rfl (fun hc11 => ?_) (fun hc11 => ?_)
   ·have hpa := hP.2 a (by omega)
    have hpb := hP.2 b' (by omega)
    refine WP.rtail 18 mixed (by kernel_rfl) H ?_
    clear H; intro w hbw12 H
    obtain ⟨_, _, e1, hxa⟩ := onesOwn H 1 rfl a (by omega)
    cases e1
    obtain ⟨_, _, e1, hxb⟩ := onesOwn H 1 rfl b' (by omega)
    cases e1
    refine Y.v (Ev.mvS rfl) <| Y.v (Y.f rfl rfl) <| Y.v (Y.l H 0 rfl rfl rfl) <| Y.v (Ev.mvS rfl) <| Y.v (Y.f rfl rfl) <| Y.v (Y.l H 0 rfl rfl rfl) <| Y.v (Y.x rfl rfl rfl rfl) <| Y.v (Y.c (by assumption) rfl) ?_
    refine Y.v (Ev.mvS rfl) <| Y.v (Y.f rfl rfl) <| Y.v (Y.l H 0 rfl rfl rfl) <| Y.v (Y.x rfl rfl rfl rfl) <| Y.v (Y.c (by assumption) rfl) ?_
    refine Y.v (Y.f rfl rfl) <| Y.v (Y.l H 0 rfl rfl rfl) <| Y.v (Y.s rfl rfl) <| Y.v (Ev.min rfl rfl) <| Y.v (Y.x rfl rfl rfl rfl) <| OPS.nil_s <| OPS.store 1 _ rfl rfl rfl (size_run rfl) rfl (cI rfl) rfl rfl H rfl (by simp only [List.length_map]; omega) ?_
    clear H; intro w H
    simp only [List.set_cons_zero, List.set_cons_succ] at H
    rw [hpu] at H
    refine Y.z <| Y.r <| Y.v (Y.m rfl) <| Y.v (Y.p rfl rfl) <| Y.v (Ev.asI rfl) <| Y.z ?_
    exact ⟨(by repeat (first | exact Agree.refl _ _ | exact Agree.mix _ _ _ | refine Agree.upd rfl ?_ | refine Agree.mix2 rfl ?_)), k2 - 1, by omega, j + 1, _, by omega, rfl, H.reidx [1, 2] (by decide) rfl, hP.set (by split <;> omega) (by omega)⟩
   refine Y.k <| Y.r <| Y.v (Y.m rfl) <| Y.v (Y.p rfl rfl) <| Y.v (Ev.asI rfl) <| Y.z ?_
   exact ⟨(by repeat (first | exact Agree.refl _ _ | exact Agree.mix _ _ _ | refine Agree.upd rfl ?_ | refine Agree.mix2 rfl ?_)), k2 - 1, by omega, j + 1, _, by omega, rfl, H.reidx [1, 2] (by decide) rfl, hP.mono (by omega)⟩
  refine WP.exit <| XB.hit <| Y.r <| Y.v (Y.m rfl) <| Y.v (Y.p rfl rfl) <| Y.v (Ev.asI rfl) <| Y.z ?_
  exact ⟨(by repeat (first | exact Agree.refl _ _ | exact Agree.mix _ _ _ | refine Agree.upd rfl ?_ | refine Agree.mix2 rfl ?_)), k - 1, by omega, r + 1, _, by omega, rfl, H, hP.mono (by omega)⟩
 refine WP.exit <| XB.hit <| Y.qr <| Y.v (Ev.mvS rfl) <| Y.v (Ev.asS rfl) <| Y.z ?_
 refine WP.ret ⟨_, rfl, ?_⟩
 exact ⟨g11, p, rfl, hP.mono (by simp at hc3; omega), H.reidx [0] (by decide) rfl⟩
theorem cheapErr_amt {n f t amt most : Int} {l : List Arc} (h : cheapErr n f t amt l most = 0) : 0 ≤ amt ∧ amt ≤ 65536 := by
 unfold cheapErr at h
 split at h
 ·rename_i h1; exact absurd h h1
 ·split at h
  ·cases h
  ·rename_i h2; simp at h2; omega
theorem refCheapest (n f t amt : Int) (A : Option Addr) (l : List Arc) (cap : Nat) (w0 : World) (hz : ArcsAt w0 A l) :
  Calls Try.prog 27 #[.agg #[I n, .slice A l.length cap], I f, I t, I amt] w0 fun e w' => ∃ most : Int, MostRet n f t l most (endsErr n l f t) ∧ (cheapErr n f t amt l most = 0 → ∃ (c : Int) (m go gp : Nat) (on p : List Int), n = m ∧ e = .returned (.tuple #[.agg #[I amt, I c, .slice (some ⟨go, 0, none⟩) l.length l.length, .slice (some ⟨gp, 0, none⟩) m m], I 0]) ∧ PB m p 2181038080 ∧ SH w0 [] w' [⟨go, 3, on.map I⟩, ⟨gp, 3, p.map I⟩]) := by
 have H := SH.refl w0
 refine Calls.ofWPc Try.func27 rfl Try.results27 Try.ntmps27 rfl <| Y.qr <| Y.bx (cA rfl) H ?_
 clear H; intro g4 w H
 refine Y.al H rfl rfl ?_
 clear H; intro g8 w H
 refine Y.v (Ev.asI rfl) <| Y.z <| Y.qr <| Y.v (Y.o H 1 rfl rfl) <| Y.v (Y.m rfl) <| Y.v (Y.m rfl) <| Y.v (Y.m rfl) <| OPS.call (d := some 20) rfl rfl rfl (EvC.func (fun_run rfl)) (refCost n f t amt A l cap w (hz.sh H)) ?_
 rintro _ w ⟨most, c, er, rfl, hR, hb⟩
 refine ⟨_, rfl, ?_⟩
 replace H := H.toBelow hb; clear hb
 refine Y.v (Ev.mvT rfl) <| Y.v (Ev.extract rfl rfl) <| Y.v (Ev.extract rfl rfl) <| Y.v (Ev.asI rfl) <| Y.v (Ev.asI rfl) <| Y.z <| Y.q <| Y.qr <| Y.v (Y.m rfl) <| Y.v (Ev.neq rfl rfl) <| Y.z ?_
 refine WP.cond rfl (fun hc2 => ?_) (fun hc2 => ?_)
 ·refine Y.qr <| Y.v (Ev.build (bld_71_ (e := fun _ => .int .i64 0))) <| Y.v (Y.m rfl) <| Y.st 0 H rfl (cA rfl) rfl ?_
  clear H; intro w H; try simp only [List.set_cons_zero, List.set_cons_succ, putL, Nat.zero_add] at H
  refine Y.v (Ev.asI rfl) <| Y.z ?_
  refine WP.ret ⟨[_, _], ⟨(by exact resCellA 0 H rfl (agg_run rfl) (size_run rfl) (by rfl) rfl), rfl, trivial⟩, ?_⟩
  have he : er ≠ 0 := by simpa using hc2
  exact ⟨most, hR.mst, fun h => absurd (hR.err.trans h) he⟩
 have he : er = 0 := by simpa using hc2
 have hce := hR.err.symm.trans he
 obtain ⟨m, s, d, hE, _⟩ := hR.good he
 have e1 := hE.hn
 have e2 := hE.hf
 have e3 := hE.ht
 subst e1 e2 e3
 have hN := hE.net
 have hab := cheapErr_amt hce
 refine Y.k <| Y.qr <| Y.v (Y.o H 1 rfl rfl) <| Y.v (Y.m rfl) <| Y.v (Y.m rfl) <| Y.v (Y.m rfl) <| OPS.call (d := some 32) rfl rfl rfl (EvC.func (fun_run rfl)) (refFilled m s d amt A l cap w hN hE.s1 hE.d1 hE.ne (by omega) (hz.sh H)) ?_
 rintro _ w ⟨gon, on, got, rfl, hF, Hc⟩
 refine ⟨_, rfl, ?_⟩
 replace H := SH.call (Lv := []) (by rw [List.append_nil]; exact H) Hc
 clear Hc
 have hol : on.length = l.length := hF.flow.v.len
 refine Y.v (Ev.mvT rfl) <| Y.v (Ev.extract rfl rfl) <| Y.v (Ev.extract rfl rfl) <| Y.v (Ev.extract rfl rfl) <| Y.v (Ev.asS rfl) <| Y.v (Ev.asI rfl) <| Y.v (Ev.asI rfl) <| Y.z <| Y.qr <| Y.v (Y.m rfl) <| Y.v (Y.m rfl) <| Y.v (Ev.mvS rfl) <| Y.v (Y.o H 1 rfl rfl) <| Y.v (Ev.mvS rfl) ?_
 have hpo := refPotentials m A (some ⟨gon, 0, none⟩) l on cap l.length w hN hol (hz.sh H) (onesOwn H 2 rfl)
 rw [hol] at hpo
 refine OPS.call (d := some 41) rfl rfl rfl (EvC.func (fun_run rfl)) (hpo) ?_
 rintro _ w ⟨gp, p, rfl, hP, Hc⟩
 refine ⟨_, rfl, ?_⟩
 replace H := SH.call (Lv := []) (by rw [List.append_nil]; exact H) Hc
 clear Hc hpo
 simp only [List.cons_append, List.nil_append] at H
 refine Y.v (Ev.build (bld_71_0_1_2_3 rfl rfl rfl rfl)) <| Y.st 0 H rfl (cA rfl) rfl ?_
 clear H; intro w H; try simp only [List.set_cons_zero, List.set_cons_succ, putL, Nat.zero_add] at H
 refine Y.v (Ev.asI rfl) <| Y.z ?_
 refine WP.ret ⟨[_, _], ⟨(by exact resCellA 0 H rfl (agg_run rfl) (size_run rfl) (by rfl) rfl), rfl, trivial⟩, ?_⟩
 exact ⟨most, hR.mst, fun _ => ⟨c, m, gon, gp, on, p, rfl, rfl, hP, H.drop (List.sublist_append_right [_, _] [_, _])⟩⟩
end Go.Proofs.Ytgjfjbphngamgaa.Flo

/-
 Plain: the reference's network has the program's least cost.
-/
set_option linter.all false
namespace Go.Proofs.Ytgjfjbphngamgaa
open Go Go.W Go.RowKit
theorem netR_two (C D : List Int) (tm : List (List Int)) : Flo.Two (netR C D tm) (Flo.colArcs (2 + C.length) 2 C tm) (Flo.brArcs 1 (2 + C.length) D) := .inr rfl
theorem netR_ren {C D : List Int} {tm : List (List Int)} (hX : Flo.Trans C D tm) : Flo.Two (netR C D tm) ((Flo.colArcs (1 + C.length) 1 C tm).map (Flo.renA (C.length + D.length + 1) 1 1)) ((Flo.brArcs (C.length + D.length + 1) (1 + C.length) D).map (Flo.renA (C.length + D.length + 1) 1 1)) := by
 have hr : ∀ x : Int, 0 < x → x < C.length + D.length + 1 → Flo.ren (C.length + D.length + 1) 1 1 x = x + 1 := fun x h1 h2 => by
  unfold Flo.ren; rw [if_neg (by omega), if_neg (by omega)]
 have hlen : ∀ r ∈ tm, r.length ≤ D.length := fun r hr => by
  obtain ⟨j, hj, rfl⟩ := List.mem_iff_getElem.1 hr
  refine Nat.not_lt.1 fun h => ?_
  have e : Flo.tmAt tm j D.length = some (tm[j][D.length]) := by unfold Flo.tmAt; simp [hj, h]
  have := (hX.tab.cols j D.length _ e).2
  omega
 have h1 := Flo.col_ren (last := C.length + D.length + 1) (last' := 1) (sh := 1) (g := 1 + C.length) (nb := D.length) (fun k hk => hr _ (by omega) (by omega)) C tm 1 hlen (fun j hj => hr _ (by omega) (by omega))
 have h2 := Flo.br_ren (last := C.length + D.length + 1) (last' := 1) (sh := 1) (by omega) D (1 + C.length) (fun k hk => hr _ (by omega) (by omega))
 rw [← h1, ← h2, show (1 : Int) + C.length + 1 = 2 + C.length by omega]
 exact netR_two C D tm
theorem netR_least {C D : List Int} {tm : List (List Int)} {us vs : List Int} {T c : Int} (hX : Flo.Trans C D tm) (hS : Flo.Solved C D tm us vs T) (hL : Flo.IsLeast (C.length + D.length + 2) (netR C D tm) 0 1 D.sum c) : c = T := by
 have hP := Flo.stand_r C D
 have hn := Flo.net_nodes hP hX.tab (netR_two C D tm)
 have h1 : T ≤ c := by
  obtain ⟨on, hf, rfl⟩ := hL.1
  obtain ⟨⟨u, v, a1, a2, a3⟩, _⟩ := hS.max
  have := Flo.weak_price hP hX.tab (netR_two C D tm) hn hf a1 a2
  omega
 have h2 : c ≤ T := by
  obtain ⟨on, hf, hc⟩ := hS.flow
  have hPp := Flo.stand_p C D
  have h2p : Flo.Two (netP C D tm) (Flo.colArcs (1 + C.length) 1 C tm) (Flo.brArcs (C.length + D.length + 1) (1 + C.length) D) := .inl rfl
  have hnp := Flo.net_nodes hPp hX.tab h2p
  obtain ⟨on', hf', hc'⟩ := Flo.flow_ren (n' := C.length + D.length + 2) h2p (netR_ren hX) hnp (by omega) (by omega) (fun x y hx hx2 hy hy2 he => by
   unfold Flo.ren at he
   split at he <;> split at he <;> (try split at he) <;> (try split at he) <;> omega) hf (by omega) (by omega)
  have := hL.2 on' hf'
  have hc : Flo.costOf (netP C D tm) on = T := hc
  omega
 omega
theorem netR_len {C D : List Int} {tm : List (List Int)} (h : Flo.Trans C D tm) : (netR C D tm).length ≤ 300 := by
 have h1 := netP_len h
 unfold netP at h1
 unfold netR
 rw [List.length_append] at h1 ⊢
 have e1 := Flo.br_len 1 D (2 + C.length)
 have e2 := Flo.br_len (C.length + D.length + 1) D (1 + C.length)
 have e3 : (Flo.colArcs (2 + C.length) 2 C tm).length = (Flo.colArcs (1 + C.length) 1 C tm).length := by
  have := netR_ren h
  rcases this with h4 | h4
  ·have := congrArg List.length h4
   unfold netR at this
   simp only [List.length_append, List.length_map] at this
   omega
  ·have := congrArg List.length h4
   unfold netR at this
   simp only [List.length_append, List.length_map] at this
   omega
 omega
theorem netR_ends {C D : List Int} {tm : List (List Int)} (h : Flo.Trans C D tm) : Flo.endsErr (C.length + D.length + 2 : Nat) (netR C D tm) 0 1 = 0 := h.ends (Flo.stand_r C D) (netR_two C D tm) (by have := netR_len h; omega)
theorem netR_most {C D : List Int} {tm : List (List Int)} {most : Int} (h : Flo.Trans C D tm) (hm : Flo.MostRet (C.length + D.length + 2 : Nat) 0 1 (netR C D tm) most (Flo.endsErr (C.length + D.length + 2 : Nat) (netR C D tm) 0 1)) : D.sum ≤ most ↔ Flo.Hall C D tm := by
 have hD := h.dsum
 obtain ⟨m, e, hmx⟩ := hm.2.2 (netR_ends h)
 have e2 : m = C.length + D.length + 2 := by omega
 subst e2
 exact Flo.most_hall (Flo.stand_r C D) h.tab (fun c hc => by have := h.cb c hc; omega) (by omega) (netR_two C D tm) hmx
theorem capL_one {m : Nat} {l : List Edg} {ts : List Truck} {ns : List Need} {hd : Int} (hK : NightOk m l ts ns hd) (h0 : ts.length ≠ 0) : 1 ≤ capL ts := by
 have h : ∀ j, j + 1 ≤ ts.length → 1 ≤ capL (ts.take (j + 1)) := fun j hj => by
  have h1 := hK.tr ts[j] (List.getElem_mem (by omega))
  rw [capL_take (show j < ts.length by omega)]
  split <;> omega
 have := h (ts.length - 1) (by omega)
 rwa [show ts.length - 1 + 1 = ts.length by omega, List.take_length] at this
end Go.Proofs.Ytgjfjbphngamgaa

/-
 Walk: the reference's least.
-/
set_option linter.all false
namespace Go.Proofs.Ytgjfjbphngamgaa
open Go Go.W Go.RowKit
theorem netR_cheap {C D : List Int} {tm : List (List Int)} {most : Int} (h : Flo.Trans C D tm) (hm : Flo.MostRet (C.length + D.length + 2 : Nat) 0 1 (netR C D tm) most (Flo.endsErr (C.length + D.length + 2 : Nat) (netR C D tm) 0 1)) :
  (Flo.Hall C D tm → Flo.cheapErr (C.length + D.length + 2 : Nat) 0 1 D.sum (netR C D tm) most = 0) ∧ (¬ Flo.Hall C D tm → Flo.cheapErr (C.length + D.length + 2 : Nat) 0 1 D.sum (netR C D tm) most = 15) := by
 have hD := h.dsum
 have he := netR_ends h
 have hh := netR_most h hm
 constructor
 ·intro hH
  rw [Flo.cheapErr, if_neg (by rw [he]; simp), if_neg (by simp; omega), if_neg (by have := hh.2 hH; omega)]
 ·intro hH
  rw [Flo.cheapErr, if_neg (by rw [he]; simp), if_neg (by simp; omega), if_pos (Int.not_le.1 fun h => hH (hh.1 h))]
theorem solveErr_empty {cp : Int} {C D : List Int} {tm : List (List Int)} (h : emptyB cp C.sum D.sum = true) : solveErr cp C D tm = 10 := by rw [solveErr, if_pos h]
theorem capL_nil : capL [] = 0 := rfl
structure LeastRet (n : Int) (l : List Edg) (ts : List Truck) (ns : List Need) (hd t er : Int) : Prop where
 err : er = findErr n l ts ns hd
 good : er = 0 → (0 ≤ t ∧ t ≤ 4000000000000) ∧ ∀ us vs T, Flo.Solved (movC ns) (movD ns) (timL n.toNat l ns) us vs T → t = T
set_option maxHeartbeats 1000000 in
theorem r44Least (n hd : Int) (A B C : Option Addr) (l : List Edg) (ts : List Truck) (ns : List Need) (ca cb cc : Nat) (w0 : World) (hN : NightAt w0 A B C l ts ns cc) :
  Calls Try.prog 22 #[.agg #[I n, .slice A l.length ca, .slice B ts.length cb, .slice C ns.length cc, I hd]] w0 fun e w' => ∃ t er : Int, e = .returned (.tuple #[I t, I er]) ∧ LeastRet n l ts ns hd t er ∧ Below w0.heap.size w0 w' := by
 have H := SH.refl w0
 by_cases h0 : nightErr n l ts ns hd = 0
 ·obtain ⟨m, rfl, hK⟩ := nightOk_of h0
  have hX := trans_ok hK
  have hD := hX.dsum
  have hnl := hK.nl
  have hl1 : (colN ns).length ≤ ns.length := List.length_filter_le _ _
  have hl2 : (briN ns).length ≤ ns.length := List.length_filter_le _ _
  have hcb : ∀ x ∈ colN ns, -32 ≤ x.move ∧ x.move ≤ 32 := fun x hx => by have := hK.nd x (List.mem_filter.1 hx).1; omega
  have hbb : ∀ x ∈ briN ns, -32 ≤ x.move ∧ x.move ≤ 32 := fun x hx => by have := hK.nd x (List.mem_filter.1 hx).1; omega
  have hfe : findErr m l ts ns hd = solveErr (capL ts) (movC ns) (movD ns) (timL m l ns) := by rw [findErr, if_neg (by simp [h0])]; simp
  by_cases hts : ts.length = 0
  ·have htn : ts = [] := List.length_eq_zero_iff.1 hts
   subst htn
   refine Calls.ofWP Try.func22 rfl Try.results22 Try.ntmps22 rfl <| Y.qr <| Y.bx (cA rfl) H ?_
   clear H; intro g1 w H
   refine Y.v (Ev.asI rfl) <| Y.v (Ev.asI rfl) <| Y.z <| Y.q <| Y.qr <| Y.v (Y.o H 0 rfl rfl) <| OPS.call (d := some 7) rfl rfl rfl (EvC.func (fun_run rfl)) (r42Check m hd A B C l [] ns ca cb cc w (hN.l.sh H) (hN.t.sh H) (hN.n.sh H)) ?_
   rintro _ w ⟨rfl, hb⟩
   refine ⟨_, rfl, ?_⟩
   replace H := H.toBelow hb; clear hb
   refine Y.v (Ev.asI rfl) <| Y.z <| Y.qr <| Y.v (Y.m rfl) <| Y.v (Ev.neq rfl rfl) <| Y.z ?_
   refine WP.cond rfl (fun hc2 => ?_) (fun hc2 => ?_)
   ·refine Y.qr <| Y.v (Y.m rfl) <| Y.v (Ev.asI rfl) <| Y.v (Ev.asI rfl) <| Y.z ?_
    refine WP.ret ⟨_, rfl, ?_⟩
    exact absurd hc2 (by simp [h0])
   refine Y.k <| Y.qr <| Y.v (Y.o H 0 rfl rfl) <| OPS.call (d := some 12) rfl rfl rfl (EvC.func (fun_run rfl)) (r44Bri m hd A B C l.length 0 ns ca cb cc w (hN.n.sh H) (by omega)) ?_
   rintro _ w ⟨Sb, kb, Lb, rfl, hOb, Hc⟩
   refine ⟨_, rfl, ?_⟩
   replace H := SH.call (Lv := []) (by rw [List.append_nil]; exact H) Hc
   clear Hc
   refine OPS.call (d := some 13) rfl rfl rfl (EvC.func (fun_run rfl)) (r44Sum Sb (briN ns) kb w (OwnS.needs hOb H) (by omega) hbb) ?_
   rintro _ w ⟨rfl, hb⟩
   refine ⟨_, rfl, ?_⟩
   replace H := H.toBelow hb; clear hb
   rw [sum_bri]
   clear hOb
   refine Y.v (Ev.asI rfl) <| Y.z <| Y.q <| Y.qr <| Y.v (Y.f rfl rfl) <| Y.v (Y.l H 0 rfl rfl rfl) <| Y.v (Y.n rfl) <| Y.v (Ev.eql rfl rfl) <| Y.v (Ev.mvB rfl) <| OPS.gno rfl rfl rfl rfl rfl rfl <| OPS.gno rfl rfl rfl rfl rfl rfl <| OPS.gno rfl rfl rfl rfl rfl rfl <| OPS.gno rfl rfl rfl rfl rfl rfl <| OPS.gno rfl rfl rfl rfl rfl rfl <| OPS.val (v := .bool true) rfl rfl rfl (Ev.pick (b := true) rfl) <| Y.z ?_
   refine WP.cond rfl (fun hc5 => ?_) (fun hc5 => ?_)
   ·refine Y.qr <| Y.v (Ev.asI rfl) <| Y.v (Ev.asI rfl) <| Y.z ?_
    refine WP.ret ⟨_, rfl, ?_⟩
    exact ⟨0, 10, rfl, ⟨by rw [hfe, solveErr_empty (by rw [capL_nil]; rfl)], fun h => by cases h⟩, H.below⟩
   refine Y.k <| Y.q ?_
   cases hc5
  ·have hts2 : (decide ((ts.length : Int) = 0)) = false := decide_eq_false (by omega)
   have hcp := capL_one hK hts
   refine Calls.ofWP Try.func22 rfl Try.results22 Try.ntmps22 rfl <| Y.qr <| Y.bx (cA rfl) H ?_
   clear H; intro g1 w H
   refine Y.v (Ev.asI rfl) <| Y.v (Ev.asI rfl) <| Y.z <| Y.q <| Y.qr <| Y.v (Y.o H 0 rfl rfl) <| OPS.call (d := some 7) rfl rfl rfl (EvC.func (fun_run rfl)) (r42Check m hd A B C l ts ns ca cb cc w (hN.l.sh H) (hN.t.sh H) (hN.n.sh H)) ?_
   rintro _ w ⟨rfl, hb⟩
   refine ⟨_, rfl, ?_⟩
   replace H := H.toBelow hb; clear hb
   refine Y.v (Ev.asI rfl) <| Y.z <| Y.qr <| Y.v (Y.m rfl) <| Y.v (Ev.neq rfl rfl) <| Y.z ?_
   refine WP.cond rfl (fun hc2 => ?_) (fun hc2 => ?_)
   ·refine Y.qr <| Y.v (Y.m rfl) <| Y.v (Ev.asI rfl) <| Y.v (Ev.asI rfl) <| Y.z ?_
    refine WP.ret ⟨_, rfl, ?_⟩
    exact absurd hc2 (by simp [h0])
   refine Y.k <| Y.qr <| Y.v (Y.o H 0 rfl rfl) <| OPS.call (d := some 12) rfl rfl rfl (EvC.func (fun_run rfl)) (r44Bri m hd A B C l.length ts.length ns ca cb cc w (hN.n.sh H) (by omega)) ?_
   rintro _ w ⟨Sb, kb, Lb, rfl, hOb, Hc⟩
   refine ⟨_, rfl, ?_⟩
   replace H := SH.call (Lv := []) (by rw [List.append_nil]; exact H) Hc
   clear Hc
   refine OPS.call (d := some 13) rfl rfl rfl (EvC.func (fun_run rfl)) (r44Sum Sb (briN ns) kb w (OwnS.needs hOb H) (by omega) hbb) ?_
   rintro _ w ⟨rfl, hb⟩
   refine ⟨_, rfl, ?_⟩
   replace H := H.toBelow hb; clear hb
   rw [sum_bri]
   replace H := H.drop (List.sublist_append_left _ _)
   clear hOb
   refine Y.v (Ev.asI rfl) <| Y.z <| Y.q <| Y.qr <| Y.v (Y.f rfl rfl) <| Y.v (Y.l H 0 rfl rfl rfl) <| Y.v (Y.n rfl) <| Y.v (Ev.eql rfl rfl) ?_
   rw [hts2]
   refine Y.v (Ev.mvB rfl) <| OPS.gyes rfl rfl rfl rfl <| OPS.val rfl rfl rfl Ev.move <| OPS.gyes rfl rfl rfl rfl <| Y.v (Y.o H 0 rfl rfl) <| OPS.gyes rfl rfl rfl rfl <| OPS.call (d := some 21) rfl rfl rfl (EvC.func (fun_run rfl)) (r44Col m hd A B C l.length ts.length ns ca cb cc w (hN.n.sh H) (by omega)) ?_
   rintro _ w ⟨Sc, kc, Lc, rfl, hOc, Hc⟩
   refine ⟨_, rfl, ?_⟩
   replace H := SH.call (Lv := []) (by rw [List.append_nil]; exact H) Hc
   clear Hc
   refine OPS.gyes rfl rfl rfl rfl <| OPS.call (d := some 22) rfl rfl rfl (EvC.func (fun_run rfl)) (r44Sum Sc (colN ns) kc w (OwnS.needs hOc H) (by omega) hcb) ?_
   rintro _ w ⟨rfl, hb⟩
   refine ⟨_, rfl, ?_⟩
   replace H := H.toBelow hb; clear hb
   rw [sum_col]
   replace H := H.drop (List.sublist_append_left _ _)
   clear hOc
   refine OPS.gyes rfl rfl rfl rfl <| Y.v (Ev.gtr rfl rfl) <| OPS.val (v := .bool (decide ((movC ns).sum < (movD ns).sum))) rfl rfl rfl (Ev.pick (b := false) rfl) <| Y.z ?_
   refine WP.cond rfl (fun hc5 => ?_) (fun hc5 => ?_)
   ·refine Y.qr <| Y.v (Ev.asI rfl) <| Y.v (Ev.asI rfl) <| Y.z ?_
    refine WP.ret ⟨_, rfl, ?_⟩
    have hlt : (movC ns).sum < (movD ns).sum := by simpa using hc5
    exact ⟨0, 10, rfl, ⟨by rw [hfe, solveErr_empty (by unfold emptyB; simp [hlt])], fun h => by cases h⟩, H.below⟩
   have hge : ¬ (movC ns).sum < (movD ns).sum := by simpa using hc5
   have hem : emptyB (capL ts) (movC ns).sum (movD ns).sum = false := by unfold emptyB; simp; omega
   have hse : solveErr (capL ts) (movC ns) (movD ns) (timL m l ns) = open Classical in if Flo.Hall (movC ns) (movD ns) (timL m l ns) then 0 else 15 := by rw [solveErr, if_neg (by rw [hem]; simp)]
   refine Y.k <| Y.qr <| Y.v (Y.o H 0 rfl rfl) <| OPS.call (d := some 26) rfl rfl rfl (EvC.func (fun_run rfl)) (r44Network m hd A B C l ts ns ca cb cc w (hN.sh H) hK) ?_
   rintro _ w ⟨NA, ncap, LN, rfl, hA, Hc⟩
   refine ⟨_, rfl, ?_⟩
   replace H := SH.call (Lv := []) (by rw [List.append_nil]; exact H) Hc
   clear Hc
   refine Y.v (Y.m rfl) <| OPS.call (d := some 28) rfl rfl rfl (EvC.func (fun_run rfl)) (Flo.refCost ((movC ns).length + (movD ns).length + 2 : Nat) 0 1 (movD ns).sum NA (netR (movC ns) (movD ns) (timL m l ns)) ncap w (hA.at H (List.sublist_append_right _ _))) ?_
   rintro _ w ⟨most, c, er, rfl, hR, hb⟩
   refine ⟨_, rfl, ?_⟩
   replace H := H.toBelow hb; clear hb
   refine Y.v (Ev.extract rfl rfl) <| Y.v (Ev.extract rfl rfl) <| Y.v (Ev.asI rfl) <| Y.v (Ev.asI rfl) <| Y.z ?_
   refine WP.ret ⟨_, rfl, ?_⟩
   have hch := netR_cheap hX hR.mst
   refine ⟨c, er, rfl, ⟨?_, fun he => ?_⟩, H.below⟩
   ·rw [hfe, hse, hR.err]
    split
    ·rename_i hH; exact hch.1 hH
    ·rename_i hH; exact hch.2 hH
   ·obtain ⟨m2, s, d, hE, hL⟩ := hR.good he
    have e1 := hE.hn
    have e2 := hE.hf
    have e3 := hE.ht
    have e4 : m2 = (movC ns).length + (movD ns).length + 2 := by omega
    have e5 : s = 0 := by omega
    have e6 : d = 1 := by omega
    subst e4 e5 e6
    refine ⟨?_, fun us vs T hS => netR_least hX (by simpa using hS) hL⟩
    obtain ⟨on, hf, rfl⟩ := hL.1
    have := Flo.costOf_bd' hE.net hf.v
    omega
 ·have hfe : findErr n l ts ns hd = nightErr n l ts ns hd := by rw [findErr, if_pos h0]
  refine Calls.ofWP Try.func22 rfl Try.results22 Try.ntmps22 rfl <| Y.qr <| Y.bx (cA rfl) H ?_
  clear H; intro g1 w H
  refine Y.v (Ev.asI rfl) <| Y.v (Ev.asI rfl) <| Y.z <| Y.q <| Y.qr <| Y.v (Y.o H 0 rfl rfl) <| OPS.call (d := some 7) rfl rfl rfl (EvC.func (fun_run rfl)) (r42Check n hd A B C l ts ns ca cb cc w (hN.l.sh H) (hN.t.sh H) (hN.n.sh H)) ?_
  rintro _ w ⟨rfl, hb⟩
  refine ⟨_, rfl, ?_⟩
  replace H := H.toBelow hb; clear hb
  refine Y.v (Ev.asI rfl) <| Y.z <| Y.qr <| Y.v (Y.m rfl) <| Y.v (Ev.neq rfl rfl) <| Y.z ?_
  refine WP.cond rfl (fun hc2 => ?_) (fun hc2 => ?_)
  ·refine Y.qr <| Y.v (Y.m rfl) <| Y.v (Ev.asI rfl) <| Y.v (Ev.asI rfl) <| Y.z ?_
   refine WP.ret ⟨_, rfl, ?_⟩
   exact ⟨0, _, rfl, ⟨hfe.symm, fun h => absurd h h0⟩, H.below⟩
  refine Y.k <| Y.q ?_
  exact absurd hc2 (by simp [h0])
end Go.Proofs.Ytgjfjbphngamgaa

/-
 Walk: the reference's Find.
-/
set_option linter.all false
namespace Go.Proofs.Ytgjfjbphngamgaa
open Go Go.W Go.RowKit
structure RefFind (n : Int) (l : List Edg) (ts : List Truck) (ns : List Need) (hd s b : Int) : Prop where
 good : findErr n l ts ns hd = 0 → (∀ us vs T, Flo.Solved (movC ns) (movD ns) (timL n.toNat l ns) us vs T → s = divI T (capL ts)) ∧ b = (movD ns).sum
set_option maxRecDepth 20000 in
set_option maxHeartbeats 4000000 in
theorem r44Find (n hd : Int) (A B C : Option Addr) (l : List Edg) (ts : List Truck) (ns : List Need) (ca cb cc : Nat) (w0 : World) (hN : NightAt w0 A B C l ts ns cc) :
  Calls Try.prog 12 #[.agg #[I n, .slice A l.length ca, .slice B ts.length cb, .slice C ns.length cc, I hd]] w0 fun e w' => ∃ (s b : Int) (AU AV : Option Addr) (nu cu nv cv : Nat), e = .returned (.tuple #[.agg (bndL s b AU nu cu AV nv cv).toArray, I (findErr n l ts ns hd)]) ∧ RefFind n l ts ns hd s b ∧ Below w0.heap.size w0 w' := by
 have H := SH.refl w0
 by_cases h0 : findErr n l ts ns hd = 0
 ·obtain ⟨m, rfl, hK, hem, hH⟩ := findErr_night h0
  have hX := trans_ok hK
  have hD := hX.dsum
  have hnl := hK.nl
  have hcap := capL_bd hK
  have hcap1 : 1 ≤ capL ts := by simp [emptyB] at hem; omega
  have hl1 : (colN ns).length ≤ ns.length := List.length_filter_le _ _
  have hl2 : (briN ns).length ≤ ns.length := List.length_filter_le _ _
  have hCl : (movC ns).length = (colN ns).length := by simp [movC]
  have hDl : (movD ns).length = (briN ns).length := by simp [movD]
  have hbb : ∀ x ∈ briN ns, -32 ≤ x.move ∧ x.move ≤ 32 := fun x hx => by have := hK.nd x (List.mem_filter.1 hx).1; omega
  have htb : ∀ t ∈ ts, 0 ≤ t.cap ∧ t.cap ≤ 32 := fun t ht => by have := hK.tr t ht; omega
  have htl := hK.tl
  refine Calls.ofWPc Try.func12 rfl Try.results12 Try.ntmps12 rfl <| Y.qr <| Y.bx (cA rfl) H ?_
  clear H; intro g1 w H
  refine Y.al H rfl rfl ?_
  clear H; intro g2 w H
  refine Y.v (Ev.asI rfl) <| Y.z <| Y.qr <| Y.v (Y.o H 1 rfl rfl) <| OPS.call (d := some 15) rfl rfl rfl (EvC.func (fun_run rfl)) (r44Least m hd A B C l ts ns ca cb cc w (hN.sh H)) ?_
  rintro _ w ⟨t, er, rfl, hR, hb⟩
  refine ⟨_, rfl, ?_⟩
  replace H := H.toBelow hb; clear hb
  refine Y.v (Ev.mvT rfl) <| Y.v (Ev.extract rfl rfl) <| Y.v (Ev.extract rfl rfl) <| Y.v (Ev.asI rfl) <| Y.v (Ev.asI rfl) <| Y.z <| Y.q <| Y.qr <| Y.v (Y.m rfl) <| Y.v (Ev.neq rfl rfl) <| Y.z ?_
  refine WP.cond rfl (fun hc2 => ?_) (fun hc2 => ?_)
  ·refine Y.qr <| Y.v (Ev.build (bld_33_ (e := fun _ => .int .i64 0))) <| Y.v (Y.m rfl) <| Y.st 0 H rfl (cA rfl) rfl ?_
   clear H; intro w H; try simp only [List.set_cons_zero, List.set_cons_succ, putL, Nat.zero_add] at H
   refine Y.v (Ev.asI rfl) <| Y.z ?_
   refine WP.ret ⟨[_, _], ⟨(by exact resCellA 0 H rfl (agg_run rfl) (size_run rfl) (by rfl) rfl), rfl, trivial⟩, ?_⟩
   exact absurd hc2 (by rw [hR.err, h0]; decide)
  have her : er = 0 := hR.err.trans h0
  obtain ⟨htn, htS⟩ := hR.good her
  unfold zeroB at H
  refine Y.k <| Y.q ?_
  refine WP.rheldC [6, 7, 22, 23, 24, 25] (fun u w' => ∃ (Sc Sb : Option Addr) (kc kb : Nat) (Lb : List Blk), u 6 = .slice Sc (colN ns).length kc ∧ u 7 = .slice Sb (briN ns).length kb ∧ OwnS Sb kb (briN ns).length ((briN ns).flatMap needCells) 48 2 Lb ∧ SH w0 [] w' ([⟨g2, 33, zeroB⟩, ⟨g1, 28, [I m, .slice A l.length ca, .slice B ts.length cb, .slice C ns.length cc, I hd]⟩] ++ Lb)) mixed H ?_ ?_
  ·clear H; intro w hbw4 H
   refine Y.t 0 H rfl rfl (fun w H => Y.o H 1 rfl rfl) <| Y.t 2 H rfl rfl (fun w H => Y.o H 1 rfl rfl) ?_
   refine Y.A [1] rfl ⟨⟨_, rfl, ?_⟩, trivial⟩
   refine OPS.call (d := some 23) rfl rfl rfl (EvC.func (fun_run rfl)) (r44Col m hd A B C l.length ts.length ns ca cb cc _ (hN.n.sh H) (by omega)) ?_
   rintro _ w ⟨Sc, kc, Lc, rfl, _, Hc⟩
   refine ⟨_, rfl, ?_⟩
   replace H := H.toBelow Hc.below
   clear Hc
   refine Y.z <| ⟨(H), ?_⟩
   refine Y.A [3] rfl ⟨⟨_, rfl, ?_⟩, trivial⟩
   refine OPS.call (d := some 25) rfl rfl rfl (EvC.func (fun_run rfl)) (r44Bri m hd A B C l.length ts.length ns ca cb cc _ (hN.n.sh H) (by omega)) ?_
   rintro _ w ⟨Sb, kb, Lb, rfl, hOb, Hc⟩
   refine ⟨_, rfl, ?_⟩
   have Hf := SH.call (Lv := []) (by rw [List.append_nil]; exact H) Hc
   clear H Hc
   have H := Hf.drop (List.sublist_append_left _ _)
   refine Y.z <| ⟨(H), ?_⟩
   refine Y.t 4 H rfl rfl (fun w H => Ev.asS rfl) <| Y.t 5 H rfl rfl (fun w H => Ev.asS rfl) <| OPH.done (by kernel_rfl) ?_
   exact ⟨(by repeat (first | exact Agree.refl _ _ | exact Agree.mix _ _ _ | refine Agree.upd rfl ?_ | refine Agree.mix2 rfl ?_)), Sc, Sb, kc, kb, Lb, rfl, rfl, hOb, Hf⟩
  clear H
  rintro u w ⟨Sc, Sb, kc, kb, Lb, h6, h7, hOb, H⟩
  refine WP.know (t := 6) h6 (WP.know (t := 7) h7 ?_)
  refine Y.qr <| Y.v (Y.m rfl) <| Y.v (Y.o H 1 rfl rfl) <| OPS.call (d := some 28) rfl rfl rfl (EvC.func (fun_run rfl)) (r44Capacity m hd A B C l.length ns.length ts ca cb cc w (hN.t.sh H) (by omega) htb) ?_
  rintro _ w ⟨rfl, hb⟩
  refine ⟨_, rfl, ?_⟩
  replace H := H.toBelow hb; clear hb
  refine OPS.call (d := some 29) rfl rfl rfl (EvC.func (fun_run rfl)) (r44Divided t (capL ts) w (by omega) (by omega)) ?_
  rintro _ w ⟨rfl, hb⟩
  refine ⟨_, rfl, ?_⟩
  replace H := H.toBelow hb; clear hb
  refine Y.v (Ev.mvS rfl) <| OPS.call (d := some 31) rfl rfl rfl (EvC.func (fun_run rfl)) (r44Sum Sb (briN ns) kb w (OwnS.needs hOb H) (by omega) hbb) ?_
  rintro _ w ⟨rfl, hb⟩
  refine ⟨_, rfl, ?_⟩
  replace H := H.toBelow hb; clear hb
  rw [sum_bri]
  replace H := H.drop (L' := [⟨g2, 33, zeroB⟩, ⟨g1, 28, [I m, .slice A l.length ca, .slice B ts.length cb, .slice C ns.length cc, I hd]⟩]) (List.sublist_append_left _ _)
  clear hOb
  refine Y.v (Ev.build (bld_33_0_1 rfl rfl)) <| Y.al H rfl rfl ?_
  clear H; intro g8 w H
  refine Y.st 0 H rfl (cA rfl) rfl ?_
  clear H; intro w H; try simp only [List.set_cons_zero, List.set_cons_succ, putL, Nat.zero_add] at H
  refine Y.z <| Y.q ?_
  replace H : SH w0 [] w [⟨g8, 33, bndL (divI t (capL ts)) (movD ns).sum none 0 0 none 0 0⟩, ⟨g2, 33, zeroB⟩, ⟨g1, 28, [I m, .slice A l.length ca, .slice B ts.length cb, .slice C ns.length cc, I hd]⟩] := H
  have E := H
  unfold bndL at H E
  refine WP.rheldC [9, 10, 33, 34, 35, 36, 37, 38, 39, 40] (fun u w' => ∃ (cst : Int) (g9 go gp nl mm : Nat) (p : List Int), u 9 = .pointer (some ⟨g9, 0, none⟩) ∧ mm = (movC ns).length + (movD ns).length + 2 ∧ Flo.PB mm p 2181038080 ∧ SH w0 [] w' [⟨g9, 71, [I (movD ns).sum, I cst, .slice (some ⟨go, 0, none⟩) nl nl, .slice (some ⟨gp, 0, none⟩) mm mm]⟩, ⟨g8, 33, bndL (divI t (capL ts)) (movD ns).sum none 0 0 none 0 0⟩, ⟨g2, 33, zeroB⟩, ⟨g1, 28, [I m, .slice A l.length ca, .slice B ts.length cb, .slice C ns.length cc, I hd]⟩, ⟨gp, 3, p.map I⟩]) mixed H ?_ ?_
  ·clear H; intro w hbw6 H
   refine Y.t 0 H rfl rfl (fun w H => Y.o H 2 rfl rfl) <| Y.t 2 H rfl rfl (fun w H => Y.f rfl rfl) <| Y.t 3 H rfl rfl (fun w H => Y.l H 0 rfl rfl rfl) ?_
   refine Y.A [1, 8] rfl ⟨⟨_, rfl, ?_⟩, ⟨_, rfl, ?_⟩, trivial⟩
   ·try replace E := E.toBelow hbw6
    refine OPS.call (d := some 35) rfl rfl rfl (EvC.func (fun_run rfl)) (r44Network m hd A B C l ts ns ca cb cc _ (hN.sh E) hK) ?_
    rintro _ w ⟨NA, ncap, LN, rfl, hA, Hc⟩
    refine ⟨_, rfl, ?_⟩
    replace E := SH.call (Lv := []) (by rw [List.append_nil]; exact E) Hc
    clear H Hc
    have H : SH w0 [] w [⟨g8, 33, [I (divI t (capL ts)), I (movD ns).sum, .slice none 0 0, .slice none 0 0]⟩, ⟨g2, 33, zeroB⟩, ⟨g1, 28, [I m, .slice A l.length ca, .slice B ts.length cb, .slice C ns.length cc, I hd]⟩] := by exact E.drop (List.sublist_append_left _ _)
    refine Y.z <| ⟨(H), ?_⟩
    refine Y.A [4, 8] rfl ⟨⟨_, rfl, ?_⟩, ⟨_, rfl, ?_⟩, trivial⟩
    ·have hAt := (by exact hA.at (L' := [_, _, _] ++ LN) E (List.sublist_append_right _ _))
     refine OPS.call (d := some 38) rfl rfl rfl (EvC.func (fun_run rfl)) (Flo.refCheapest ((movC ns).length + (movD ns).length + 2 : Nat) 0 1 (movD ns).sum NA (netR (movC ns) (movD ns) (timL m l ns)) ncap w hAt) ?_
     clear hAt
     rintro _ w ⟨most, hM, hgood⟩
     obtain ⟨cst, mm, go, gp, on, p, hmm, rfl, hP, Hc⟩ := hgood ((netR_cheap hX hM).1 hH)
     refine ⟨_, rfl, ?_⟩
     replace E := SH.call (Lv := []) (by rw [List.append_nil]; exact E) Hc
     clear H Hc hgood
     have H : SH w0 [] w [⟨g8, 33, [I (divI t (capL ts)), I (movD ns).sum, .slice none 0 0, .slice none 0 0]⟩, ⟨g2, 33, zeroB⟩, ⟨g1, 28, [I m, .slice A l.length ca, .slice B ts.length cb, .slice C ns.length cc, I hd]⟩] := by exact SH.drop (L := [_, _, _] ++ (LN ++ [_, _])) E (List.sublist_append_left _ _)
     refine Y.z <| ⟨(H), ?_⟩
     refine Y.t 5 H rfl rfl (fun w H => Ev.mvT rfl) <| Y.t 6 H rfl rfl (fun w H => Ev.extract rfl rfl) <| Y.t 7 H rfl rfl (fun w H => Ev.extract rfl rfl) ?_
     refine Y.A [8] rfl ⟨⟨_, rfl, ?_⟩, trivial⟩
     try replace E := E.toBelow hbw6
     refine Y.al E rfl rfl ?_
     clear H E; intro g9 w E
     have H : SH w0 [] w [⟨g8, 33, [I (divI t (capL ts)), I (movD ns).sum, .slice none 0 0, .slice none 0 0]⟩, ⟨g2, 33, zeroB⟩, ⟨g1, 28, [I m, .slice A l.length ca, .slice B ts.length cb, .slice C ns.length cc, I hd]⟩] := by exact E.drop (List.Sublist.cons _ (List.sublist_append_left _ _))
     refine Y.z <| ⟨(H), ?_⟩
     refine Y.A [9] rfl ⟨⟨_, rfl, ?_⟩, trivial⟩
     refine Y.st 0 E rfl (cA rfl) rfl ?_
     clear H E; intro w E
     simp only [List.set_cons_zero, putL, List.cons_append, List.nil_append] at E
     have H : SH w0 [] w [⟨g8, 33, [I (divI t (capL ts)), I (movD ns).sum, .slice none 0 0, .slice none 0 0]⟩, ⟨g2, 33, zeroB⟩, ⟨g1, 28, [I m, .slice A l.length ca, .slice B ts.length cb, .slice C ns.length cc, I hd]⟩] := SH.drop (L := _ :: ([_, _, _] ++ (LN ++ [_, _]))) E (List.Sublist.cons _ (List.sublist_append_left _ _))
     refine Y.z <| ⟨(H), ?_⟩
     refine Y.t 10 H rfl rfl (fun w H => Ev.asI rfl) <| OPH.done (by kernel_rfl) ?_
     exact ⟨(by repeat (first | exact Agree.refl _ _ | exact Agree.mix _ _ _ | refine Agree.upd rfl ?_ | refine Agree.mix2 rfl ?_)), cst, g9, go, gp, _, mm, p, rfl, by omega, hP, SH.drop (L := [_, _, _, _] ++ (LN ++ [_, _])) E (List.Sublist.append (List.Sublist.refl [_, _, _, _]) ((List.sublist_cons_self _ _).trans (List.sublist_append_right _ _)))⟩
    ·try replace E := E.toBelow hbw6
     refine Y.al E rfl rfl ?_
     clear H E; intro g9 w E
     have H : SH w0 [] w [⟨g8, 33, [I (divI t (capL ts)), I (movD ns).sum, .slice none 0 0, .slice none 0 0]⟩, ⟨g2, 33, zeroB⟩, ⟨g1, 28, [I m, .slice A l.length ca, .slice B ts.length cb, .slice C ns.length cc, I hd]⟩] := by exact E.drop (List.Sublist.cons _ (List.sublist_append_left _ _))
     refine Y.z <| ⟨(H), ?_⟩
     refine Y.A [4] rfl ⟨⟨_, rfl, ?_⟩, trivial⟩
     have hAt := (by exact hA.at (L' := [_, _, _, _] ++ LN) E (List.sublist_append_right _ _))
     refine OPS.call (d := some 38) rfl rfl rfl (EvC.func (fun_run rfl)) (Flo.refCheapest ((movC ns).length + (movD ns).length + 2 : Nat) 0 1 (movD ns).sum NA (netR (movC ns) (movD ns) (timL m l ns)) ncap w hAt) ?_
     clear hAt
     rintro _ w ⟨most, hM, hgood⟩
     obtain ⟨cst, mm, go, gp, on, p, hmm, rfl, hP, Hc⟩ := hgood ((netR_cheap hX hM).1 hH)
     refine ⟨_, rfl, ?_⟩
     replace E := SH.call (Lv := []) (by rw [List.append_nil]; exact E) Hc
     clear H Hc hgood
     have H : SH w0 [] w [⟨g8, 33, [I (divI t (capL ts)), I (movD ns).sum, .slice none 0 0, .slice none 0 0]⟩, ⟨g2, 33, zeroB⟩, ⟨g1, 28, [I m, .slice A l.length ca, .slice B ts.length cb, .slice C ns.length cc, I hd]⟩] := by exact SH.drop (L := _ :: ([_, _, _] ++ (LN ++ [_, _]))) E (List.Sublist.cons _ (List.sublist_append_left _ _))
     refine Y.z <| ⟨(H), ?_⟩
     refine Y.t 5 H rfl rfl (fun w H => Ev.mvT rfl) <| Y.t 6 H rfl rfl (fun w H => Ev.extract rfl rfl) <| Y.t 7 H rfl rfl (fun w H => Ev.extract rfl rfl) ?_
     refine Y.A [9] rfl ⟨⟨_, rfl, ?_⟩, trivial⟩
     refine Y.st 0 E rfl (cA rfl) rfl ?_
     clear H E; intro w E
     simp only [List.set_cons_zero, putL, List.cons_append, List.nil_append] at E
     have H : SH w0 [] w [⟨g8, 33, [I (divI t (capL ts)), I (movD ns).sum, .slice none 0 0, .slice none 0 0]⟩, ⟨g2, 33, zeroB⟩, ⟨g1, 28, [I m, .slice A l.length ca, .slice B ts.length cb, .slice C ns.length cc, I hd]⟩] := SH.drop (L := _ :: ([_, _, _] ++ (LN ++ [_, _]))) E (List.Sublist.cons _ (List.sublist_append_left _ _))
     refine Y.z <| ⟨(H), ?_⟩
     refine Y.t 10 H rfl rfl (fun w H => Ev.asI rfl) <| OPH.done (by kernel_rfl) ?_
     exact ⟨(by repeat (first | exact Agree.refl _ _ | exact Agree.mix _ _ _ | refine Agree.upd rfl ?_ | refine Agree.mix2 rfl ?_)), cst, g9, go, gp, _, mm, p, rfl, by omega, hP, SH.drop (L := [_, _, _, _] ++ (LN ++ [_, _])) E (List.Sublist.append (List.Sublist.refl [_, _, _, _]) ((List.sublist_cons_self _ _).trans (List.sublist_append_right _ _)))⟩
   ·try replace E := E.toBelow hbw6
    refine Y.al E rfl rfl ?_
    clear H E; intro g9 w E
    have H : SH w0 [] w [⟨g8, 33, [I (divI t (capL ts)), I (movD ns).sum, .slice none 0 0, .slice none 0 0]⟩, ⟨g2, 33, zeroB⟩, ⟨g1, 28, [I m, .slice A l.length ca, .slice B ts.length cb, .slice C ns.length cc, I hd]⟩] := by exact E.drop (List.sublist_cons_self _ _)
    refine Y.z <| ⟨(H), ?_⟩
    refine Y.A [1] rfl ⟨⟨_, rfl, ?_⟩, trivial⟩
    try replace E := E.toBelow hbw6
    refine OPS.call (d := some 35) rfl rfl rfl (EvC.func (fun_run rfl)) (r44Network m hd A B C l ts ns ca cb cc _ (hN.sh E) hK) ?_
    rintro _ w ⟨NA, ncap, LN, rfl, hA, Hc⟩
    refine ⟨_, rfl, ?_⟩
    replace E := SH.call (Lv := []) (by rw [List.append_nil]; exact E) Hc
    clear H Hc
    have H : SH w0 [] w [⟨g8, 33, [I (divI t (capL ts)), I (movD ns).sum, .slice none 0 0, .slice none 0 0]⟩, ⟨g2, 33, zeroB⟩, ⟨g1, 28, [I m, .slice A l.length ca, .slice B ts.length cb, .slice C ns.length cc, I hd]⟩] := by exact E.drop (List.Sublist.cons _ (List.sublist_append_left _ _))
    refine Y.z <| ⟨(H), ?_⟩
    refine Y.A [4] rfl ⟨⟨_, rfl, ?_⟩, trivial⟩
    have hAt := (by exact hA.at (L' := [_, _, _, _] ++ LN) E (List.sublist_append_right _ _))
    refine OPS.call (d := some 38) rfl rfl rfl (EvC.func (fun_run rfl)) (Flo.refCheapest ((movC ns).length + (movD ns).length + 2 : Nat) 0 1 (movD ns).sum NA (netR (movC ns) (movD ns) (timL m l ns)) ncap w hAt) ?_
    clear hAt
    rintro _ w ⟨most, hM, hgood⟩
    obtain ⟨cst, mm, go, gp, on, p, hmm, rfl, hP, Hc⟩ := hgood ((netR_cheap hX hM).1 hH)
    refine ⟨_, rfl, ?_⟩
    replace E := SH.call (Lv := []) (by rw [List.append_nil]; exact E) Hc
    clear H Hc hgood
    have H : SH w0 [] w [⟨g8, 33, [I (divI t (capL ts)), I (movD ns).sum, .slice none 0 0, .slice none 0 0]⟩, ⟨g2, 33, zeroB⟩, ⟨g1, 28, [I m, .slice A l.length ca, .slice B ts.length cb, .slice C ns.length cc, I hd]⟩] := by exact SH.drop (L := _ :: ([_, _, _] ++ (LN ++ [_, _]))) E (List.Sublist.cons _ (List.sublist_append_left _ _))
    refine Y.z <| ⟨(H), ?_⟩
    refine Y.t 5 H rfl rfl (fun w H => Ev.mvT rfl) <| Y.t 6 H rfl rfl (fun w H => Ev.extract rfl rfl) <| Y.t 7 H rfl rfl (fun w H => Ev.extract rfl rfl) ?_
    refine Y.A [9] rfl ⟨⟨_, rfl, ?_⟩, trivial⟩
    refine Y.st 0 E rfl (cA rfl) rfl ?_
    clear H E; intro w E
    simp only [List.set_cons_zero, putL, List.cons_append, List.nil_append] at E
    have H : SH w0 [] w [⟨g8, 33, [I (divI t (capL ts)), I (movD ns).sum, .slice none 0 0, .slice none 0 0]⟩, ⟨g2, 33, zeroB⟩, ⟨g1, 28, [I m, .slice A l.length ca, .slice B ts.length cb, .slice C ns.length cc, I hd]⟩] := SH.drop (L := _ :: ([_, _, _] ++ (LN ++ [_, _]))) E (List.Sublist.cons _ (List.sublist_append_left _ _))
    refine Y.z <| ⟨(H), ?_⟩
    refine Y.t 10 H rfl rfl (fun w H => Ev.asI rfl) <| OPH.done (by kernel_rfl) ?_
    exact ⟨(by repeat (first | exact Agree.refl _ _ | exact Agree.mix _ _ _ | refine Agree.upd rfl ?_ | refine Agree.mix2 rfl ?_)), cst, g9, go, gp, _, mm, p, rfl, by omega, hP, SH.drop (L := [_, _, _, _] ++ (LN ++ [_, _])) E (List.Sublist.append (List.Sublist.refl [_, _, _, _]) ((List.sublist_cons_self _ _).trans (List.sublist_append_right _ _)))⟩
  clear H
  rintro u w ⟨cst, g9, go, gp, nl, mm, p, h9, hmm, hP, H⟩
  refine WP.know (t := 9) h9 <| Y.q <| Y.q ?_
  have hpl := hP.1
  have hpb : ∀ i, -2181038080 ≤ p.getD i 0 ∧ p.getD i 0 ≤ 0 := fun i => by
   by_cases hi : i < p.length
   ·have := hP.2 i hi
    have e : p.getD i 0 = p[i] := by simp [hi]
    rw [e]; exact this
   ·simp [hi]
  have hpc : ∀ w, SH w0 [] w [⟨g9, 71, [I (movD ns).sum, I cst, .slice (some ⟨go, 0, none⟩) nl nl, .slice (some ⟨gp, 0, none⟩) mm mm]⟩, ⟨g2, 33, zeroB⟩, ⟨g1, 28, [I m, .slice A l.length ca, .slice B ts.length cb, .slice C ns.length cc, I hd]⟩, ⟨gp, 3, p.map I⟩] → ∀ i, i < p.length → w.cell? ⟨gp, 0 + i, none⟩ = some (I (p.getD i 0)) := fun w H i hi => by rw [Nat.zero_add]; exact intCell H 3 rfl i hi
  replace H : SH w0 [] w ([⟨g8, 33, bndL (divI t (capL ts)) (movD ns).sum none 0 0 none 0 0⟩, ⟨g9, 71, [I (movD ns).sum, I cst, .slice (some ⟨go, 0, none⟩) nl nl, .slice (some ⟨gp, 0, none⟩) mm mm]⟩, ⟨g2, 33, zeroB⟩, ⟨g1, 28, [I m, .slice A l.length ca, .slice B ts.length cb, .slice C ns.length cc, I hd]⟩, ⟨gp, 3, p.map I⟩] ++ []) := by rw [List.append_nil]; exact H.reidx [1, 0, 2, 3, 4] (by decide) rfl
  refine Y.r <| Y.v (Ev.asI rfl) <| Y.z <| WP.block <| WP.loop [11, 41, 42, 43, 44, 45, 46, 47, 48, 49, 50, 51, 52, 53, 54, 55, 56, 57, 58, 59, 60, 61, 62, 63] (fun k e w' => ∃ (j : Nat) (AU : Option Addr) (cu : Nat) (Lu : List Blk) (us : List Int), j + k = (colN ns).length ∧ e 11 = I j ∧ OwnS AU cu j (us.map I) 3 1 Lu ∧ SH w0 [] w' ([⟨g8, 33, bndL (divI t (capL ts)) (movD ns).sum AU j cu none 0 0⟩, ⟨g9, 71, [I (movD ns).sum, I cst, .slice (some ⟨go, 0, none⟩) nl nl, .slice (some ⟨gp, 0, none⟩) mm mm]⟩, ⟨g2, 33, zeroB⟩, ⟨g1, 28, [I m, .slice A l.length ca, .slice B ts.length cb, .slice C ns.length cc, I hd]⟩, ⟨gp, 3, p.map I⟩] ++ Lu)) ((colN ns).length) (⟨0, none, 0, [], [], by omega, rfl, OwnS.nil, H⟩) ?_
  clear H
  rintro k u w ⟨j, AU, cu, Lu, us, hk, h11, hOu, H⟩
  refine WP.know (t := 11) h11 <| Y.q <| Y.qr <| Y.v (Y.m rfl) <| Y.v (Ev.mvS rfl) <| Y.v (Y.n rfl) <| Y.v (Ev.lss rfl rfl) <| Y.z ?_
  refine WP.cond rfl (fun hc8 => ?_) (fun hc8 => ?_)
  ·have hlt : j < (colN ns).length := by simpa using hc8
   have hb0 := hpb 0
   have hb1 := hpb (2 + j)
   refine Y.k <| Y.q <| WP.block ?_
   have E := H
   replace H := H.drop (L' := [⟨g9, 71, [I (movD ns).sum, I cst, .slice (some ⟨go, 0, none⟩) nl nl, .slice (some ⟨gp, 0, none⟩) mm mm]⟩, ⟨g2, 33, zeroB⟩, ⟨g1, 28, [I m, .slice A l.length ca, .slice B ts.length cb, .slice C ns.length cc, I hd]⟩, ⟨gp, 3, p.map I⟩]) (List.Sublist.cons _ (List.sublist_append_left _ _))
   refine WP.rheldC [47, 48, 49, 50, 51, 52, 53, 54, 55, 56, 57, 58, 59, 60, 61, 62, 63] (fun _ w' => ∃ (AU : Option Addr) (cu : Nat) (Lu : List Blk) (us : List Int), OwnS AU cu (j + 1) (us.map I) 3 1 Lu ∧ SH w0 [] w' ([⟨g8, 33, bndL (divI t (capL ts)) (movD ns).sum AU (j + 1) cu none 0 0⟩, ⟨g9, 71, [I (movD ns).sum, I cst, .slice (some ⟨go, 0, none⟩) nl nl, .slice (some ⟨gp, 0, none⟩) mm mm]⟩, ⟨g2, 33, zeroB⟩, ⟨g1, 28, [I m, .slice A l.length ca, .slice B ts.length cb, .slice C ns.length cc, I hd]⟩, ⟨gp, 3, p.map I⟩] ++ Lu)) mixed H ?_ ?_
   ·clear H; intro w hbw10 H
    refine Y.t 0 H rfl rfl (fun w H => Y.f rfl rfl) <| Y.t 2 H rfl rfl (fun w H => Y.f rfl rfl) <| Y.t 3 H rfl rfl (fun w H => Y.l H 0 rfl rfl rfl) <| Y.t 4 H rfl rfl (fun w H => Y.m rfl) <| Y.t 5 H rfl rfl (fun w H => Y.p rfl rfl) <| Y.t 6 H rfl rfl (fun w H => Ev.indexAddr1 (j := 2 + j) (el_run rfl) (size_run rfl) rfl rfl (by omega) (by omega)) <| Y.t 7 H rfl rfl (fun w H => Y.c (hpc w H (2 + j) (by omega)) rfl) <| Y.t 8 H rfl rfl (fun w H => Y.f rfl rfl) <| Y.t 9 H rfl rfl (fun w H => Y.l H 0 rfl rfl rfl) <| Y.t 10 H rfl rfl (fun w H => Ev.indexAddr1 (j := 0) (el_run rfl) (size_run rfl) rfl rfl rfl (by omega)) <| Y.t 11 H rfl rfl (fun w H => Y.c (hpc w H 0 (by omega)) rfl) <| Y.t 12 H rfl rfl (fun w H => Y.s rfl rfl) <| Y.t 13 H rfl rfl (fun w H => Ev.max rfl rfl) ?_
    refine Y.A [1, 14] rfl ⟨⟨_, rfl, ?_⟩, ⟨_, rfl, ?_⟩, trivial⟩
    ·try replace E := E.toBelow hbw10
     refine Y.v (Y.l E 0 rfl rfl rfl) <| Y.z <| ⟨(H), ?_⟩
     refine Y.A [14] rfl ⟨⟨_, rfl, ?_⟩, trivial⟩
     try replace E := E.toBelow hbw10
     refine OPS.buildSlice rfl rfl rfl rfl (bsl_31_1_0 rfl) E ?_
     clear H E; intro g69 w E
     have H := E.drop (L' := [⟨g9, 71, [I (movD ns).sum, I cst, .slice (some ⟨go, 0, none⟩) nl nl, .slice (some ⟨gp, 0, none⟩) mm mm]⟩, ⟨g2, 33, zeroB⟩, ⟨g1, 28, [I m, .slice A l.length ca, .slice B ts.length cb, .slice C ns.length cc, I hd]⟩, ⟨gp, 3, p.map I⟩]) (List.Sublist.cons _ (List.Sublist.cons _ (List.sublist_append_left _ _)))
     refine Y.z <| ⟨(H), ?_⟩
     refine Y.A [15] rfl ⟨⟨_, rfl, ?_⟩, trivial⟩
     generalize (if 0 < p.getD (2 + j) 0 - p.getD 0 0 then p.getD (2 + j) 0 - p.getD 0 0 else 0) = x at E
     refine OPS.append (m := 1) (news := [I x]) (R := [⟨g69, 3, [I x]⟩, ⟨g8, 33, bndL (divI t (capL ts)) (movD ns).sum AU j cu none 0 0⟩, ⟨g9, 71, [I (movD ns).sum, I cst, .slice (some ⟨go, 0, none⟩) nl nl, .slice (some ⟨gp, 0, none⟩) mm mm]⟩, ⟨g2, 33, zeroB⟩, ⟨g1, 28, [I m, .slice A l.length ca, .slice B ts.length cb, .slice C ns.length cc, I hd]⟩, ⟨gp, 3, p.map I⟩]) rfl rfl rfl rfl rfl (sl_run rfl) rfl rfl hOu rfl (src_own E 0 rfl) rfl (by omega) (by unfold maxLen; omega) E (List.Perm.refl _) ?_
     clear H E; intro AU2 cu2 Lu2 w hOu E
     rw [show us.map I ++ [I x] = (us ++ [x]).map I by rw [List.map_append]; rfl] at hOu
     have H := E.drop (L' := [⟨g9, 71, [I (movD ns).sum, I cst, .slice (some ⟨go, 0, none⟩) nl nl, .slice (some ⟨gp, 0, none⟩) mm mm]⟩, ⟨g2, 33, zeroB⟩, ⟨g1, 28, [I m, .slice A l.length ca, .slice B ts.length cb, .slice C ns.length cc, I hd]⟩, ⟨gp, 3, p.map I⟩]) (List.Sublist.cons _ (List.Sublist.cons _ (List.sublist_append_left [_, _, _, _] _)))
     refine Y.z <| ⟨(H), ?_⟩
     refine Y.t 16 H rfl rfl (fun w H => Y.f rfl rfl) ?_
     refine Y.A [17] rfl ⟨⟨_, rfl, ?_⟩, trivial⟩
     unfold bndL at E
     refine Y.st 1 E rfl (cS rfl) rfl ?_
     clear H E; intro w E
     simp only [List.set_cons_zero, List.set_cons_succ, List.cons_append, List.nil_append, putL] at E
     have H := E.drop (L' := [⟨g9, 71, [I (movD ns).sum, I cst, .slice (some ⟨go, 0, none⟩) nl nl, .slice (some ⟨gp, 0, none⟩) mm mm]⟩, ⟨g2, 33, zeroB⟩, ⟨g1, 28, [I m, .slice A l.length ca, .slice B ts.length cb, .slice C ns.length cc, I hd]⟩, ⟨gp, 3, p.map I⟩]) (List.Sublist.cons _ (List.Sublist.cons _ (List.sublist_append_left [_, _, _, _] _)))
     refine Y.z <| ⟨(H), ?_⟩
     refine OPH.done (by kernel_rfl) ?_
     exact ⟨(by repeat (first | exact Agree.refl _ _ | exact Agree.mix _ _ _ | refine Agree.upd rfl ?_ | refine Agree.mix2 rfl ?_)), _, _, _, _, hOu, E.drop (List.sublist_cons_self _ _)⟩
    ·try replace E := E.toBelow hbw10
     refine OPS.buildSlice rfl rfl rfl rfl (bsl_31_1_0 rfl) E ?_
     clear H E; intro g69 w E
     have H := E.drop (L' := [⟨g9, 71, [I (movD ns).sum, I cst, .slice (some ⟨go, 0, none⟩) nl nl, .slice (some ⟨gp, 0, none⟩) mm mm]⟩, ⟨g2, 33, zeroB⟩, ⟨g1, 28, [I m, .slice A l.length ca, .slice B ts.length cb, .slice C ns.length cc, I hd]⟩, ⟨gp, 3, p.map I⟩]) (List.Sublist.cons _ (List.Sublist.cons _ (List.sublist_append_left _ _)))
     refine Y.z <| ⟨(H), ?_⟩
     refine Y.A [1] rfl ⟨⟨_, rfl, ?_⟩, trivial⟩
     try replace E := E.toBelow hbw10
     refine Y.v (Y.l E 1 rfl rfl rfl) <| Y.z <| ⟨(H), ?_⟩
     refine Y.A [15] rfl ⟨⟨_, rfl, ?_⟩, trivial⟩
     generalize (if 0 < p.getD (2 + j) 0 - p.getD 0 0 then p.getD (2 + j) 0 - p.getD 0 0 else 0) = x at E
     refine OPS.append (m := 1) (news := [I x]) (R := [⟨g69, 3, [I x]⟩, ⟨g8, 33, bndL (divI t (capL ts)) (movD ns).sum AU j cu none 0 0⟩, ⟨g9, 71, [I (movD ns).sum, I cst, .slice (some ⟨go, 0, none⟩) nl nl, .slice (some ⟨gp, 0, none⟩) mm mm]⟩, ⟨g2, 33, zeroB⟩, ⟨g1, 28, [I m, .slice A l.length ca, .slice B ts.length cb, .slice C ns.length cc, I hd]⟩, ⟨gp, 3, p.map I⟩]) rfl rfl rfl rfl rfl (sl_run rfl) rfl rfl hOu rfl (src_own E 0 rfl) rfl (by omega) (by unfold maxLen; omega) E (List.Perm.refl _) ?_
     clear H E; intro AU2 cu2 Lu2 w hOu E
     rw [show us.map I ++ [I x] = (us ++ [x]).map I by rw [List.map_append]; rfl] at hOu
     have H := E.drop (L' := [⟨g9, 71, [I (movD ns).sum, I cst, .slice (some ⟨go, 0, none⟩) nl nl, .slice (some ⟨gp, 0, none⟩) mm mm]⟩, ⟨g2, 33, zeroB⟩, ⟨g1, 28, [I m, .slice A l.length ca, .slice B ts.length cb, .slice C ns.length cc, I hd]⟩, ⟨gp, 3, p.map I⟩]) (List.Sublist.cons _ (List.Sublist.cons _ (List.sublist_append_left [_, _, _, _] _)))
     refine Y.z <| ⟨(H), ?_⟩
     refine Y.t 16 H rfl rfl (fun w H => Y.f rfl rfl) ?_
     refine Y.A [17] rfl ⟨⟨_, rfl, ?_⟩, trivial⟩
     unfold bndL at E
     refine Y.st 1 E rfl (cS rfl) rfl ?_
     clear H E; intro w E
     simp only [List.set_cons_zero, List.set_cons_succ, List.cons_append, List.nil_append, putL] at E
     have H := E.drop (L' := [⟨g9, 71, [I (movD ns).sum, I cst, .slice (some ⟨go, 0, none⟩) nl nl, .slice (some ⟨gp, 0, none⟩) mm mm]⟩, ⟨g2, 33, zeroB⟩, ⟨g1, 28, [I m, .slice A l.length ca, .slice B ts.length cb, .slice C ns.length cc, I hd]⟩, ⟨gp, 3, p.map I⟩]) (List.Sublist.cons _ (List.Sublist.cons _ (List.sublist_append_left [_, _, _, _] _)))
     refine Y.z <| ⟨(H), ?_⟩
     refine OPH.done (by kernel_rfl) ?_
     exact ⟨(by repeat (first | exact Agree.refl _ _ | exact Agree.mix _ _ _ | refine Agree.upd rfl ?_ | refine Agree.mix2 rfl ?_)), _, _, _, _, hOu, E.drop (List.sublist_cons_self _ _)⟩
   clear H
   rintro u w ⟨AU, cu, Lu, us, hOu, H⟩
   refine Y.r <| Y.v (Y.m rfl) <| Y.v (Y.p rfl rfl) <| Y.v (Ev.asI rfl) <| Y.z ?_
   exact ⟨(by repeat (first | exact Agree.refl _ _ | exact Agree.mix _ _ _ | refine Agree.upd rfl ?_ | refine Agree.mix2 rfl ?_)), k - 1, by omega, j + 1, AU, cu, Lu, us, by omega, rfl, hOu, H⟩
  have hj : j = (colN ns).length := by simp at hc8; omega
  subst hj
  replace H := H.drop (L' := [⟨g8, 33, bndL (divI t (capL ts)) (movD ns).sum AU (colN ns).length cu none 0 0⟩, ⟨g9, 71, [I (movD ns).sum, I cst, .slice (some ⟨go, 0, none⟩) nl nl, .slice (some ⟨gp, 0, none⟩) mm mm]⟩, ⟨g2, 33, zeroB⟩, ⟨g1, 28, [I m, .slice A l.length ca, .slice B ts.length cb, .slice C ns.length cc, I hd]⟩, ⟨gp, 3, p.map I⟩]) (List.sublist_append_left _ _)
  replace H : SH w0 [] w ([⟨g8, 33, bndL (divI t (capL ts)) (movD ns).sum AU (colN ns).length cu none 0 0⟩, ⟨g9, 71, [I (movD ns).sum, I cst, .slice (some ⟨go, 0, none⟩) nl nl, .slice (some ⟨gp, 0, none⟩) mm mm]⟩, ⟨g2, 33, zeroB⟩, ⟨g1, 28, [I m, .slice A l.length ca, .slice B ts.length cb, .slice C ns.length cc, I hd]⟩, ⟨gp, 3, p.map I⟩] ++ []) := by rw [List.append_nil]; exact H
  clear hOu
  refine WP.exit <| XB.hit <| Y.q <| Y.qr <| Y.v (Ev.asI rfl) <| Y.z <| WP.block <| WP.loop [12, 64, 65, 66, 67, 68, 69, 70, 71, 72, 73, 74, 75, 76, 77, 78, 79, 80, 81, 82, 83, 84, 85, 86, 87, 88, 89] (fun k e w' => ∃ (j : Nat) (AV : Option Addr) (cv : Nat) (Lv : List Blk) (vs : List Int), j + k = (briN ns).length ∧ e 12 = I j ∧ OwnS AV cv j (vs.map I) 3 1 Lv ∧ SH w0 [] w' ([⟨g8, 33, bndL (divI t (capL ts)) (movD ns).sum AU (colN ns).length cu AV j cv⟩, ⟨g9, 71, [I (movD ns).sum, I cst, .slice (some ⟨go, 0, none⟩) nl nl, .slice (some ⟨gp, 0, none⟩) mm mm]⟩, ⟨g2, 33, zeroB⟩, ⟨g1, 28, [I m, .slice A l.length ca, .slice B ts.length cb, .slice C ns.length cc, I hd]⟩, ⟨gp, 3, p.map I⟩] ++ Lv)) ((briN ns).length) (⟨0, none, 0, [], [], by omega, rfl, OwnS.nil, H⟩) ?_
  clear H
  rintro k u w ⟨j, AV, cv, Lv, vs, hk, h12, hOv, H⟩
  refine WP.know (t := 12) h12 <| Y.q <| Y.qr <| Y.v (Y.m rfl) <| Y.v (Ev.mvS rfl) <| Y.v (Y.n rfl) <| Y.v (Ev.lss rfl rfl) <| Y.z ?_
  refine WP.cond rfl (fun hc12 => ?_) (fun hc12 => ?_)
  ·have hlt : j < (briN ns).length := by simpa using hc12
   have hb0 := hpb 0
   have hb1 := hpb (2 + (colN ns).length + j)
   refine Y.k <| Y.q <| WP.block ?_
   have E := H
   replace H := H.drop (L' := [⟨g9, 71, [I (movD ns).sum, I cst, .slice (some ⟨go, 0, none⟩) nl nl, .slice (some ⟨gp, 0, none⟩) mm mm]⟩, ⟨g2, 33, zeroB⟩, ⟨g1, 28, [I m, .slice A l.length ca, .slice B ts.length cb, .slice C ns.length cc, I hd]⟩, ⟨gp, 3, p.map I⟩]) (List.Sublist.cons _ (List.sublist_append_left _ _))
   refine WP.rheldC [70, 71, 72, 73, 74, 75, 76, 77, 78, 79, 80, 81, 82, 83, 84, 85, 86, 87, 88, 89] (fun _ w' => ∃ (AV : Option Addr) (cv : Nat) (Lv : List Blk) (vs : List Int), OwnS AV cv (j + 1) (vs.map I) 3 1 Lv ∧ SH w0 [] w' ([⟨g8, 33, bndL (divI t (capL ts)) (movD ns).sum AU (colN ns).length cu AV (j + 1) cv⟩, ⟨g9, 71, [I (movD ns).sum, I cst, .slice (some ⟨go, 0, none⟩) nl nl, .slice (some ⟨gp, 0, none⟩) mm mm]⟩, ⟨g2, 33, zeroB⟩, ⟨g1, 28, [I m, .slice A l.length ca, .slice B ts.length cb, .slice C ns.length cc, I hd]⟩, ⟨gp, 3, p.map I⟩] ++ Lv)) mixed H ?_ ?_
   ·clear H; intro w hbw14 H
    refine Y.t 0 H rfl rfl (fun w H => Y.f rfl rfl) <| Y.t 2 H rfl rfl (fun w H => Y.f rfl rfl) <| Y.t 3 H rfl rfl (fun w H => Y.l H 0 rfl rfl rfl) <| Y.t 4 H rfl rfl (fun w H => Ev.mvS rfl) <| Y.t 5 H rfl rfl (fun w H => Y.n rfl) <| Y.t 6 H rfl rfl (fun w H => Y.p rfl rfl) <| Y.t 7 H rfl rfl (fun w H => Y.m rfl) <| Y.t 8 H rfl rfl (fun w H => Y.p rfl rfl) <| Y.t 9 H rfl rfl (fun w H => Ev.indexAddr1 (j := 2 + (colN ns).length + j) (el_run rfl) (size_run rfl) rfl rfl (by omega) (by omega)) <| Y.t 10 H rfl rfl (fun w H => Ev.load1 (agg_run rfl) rfl (hpc w H (2 + (colN ns).length + j) (by omega))) <| Y.t 11 H rfl rfl (fun w H => Y.f rfl rfl) <| Y.t 12 H rfl rfl (fun w H => Y.l H 0 rfl rfl rfl) <| Y.t 13 H rfl rfl (fun w H => Ev.indexAddr1 (j := 0) (el_run rfl) (size_run rfl) rfl rfl rfl (by omega)) <| Y.t 14 H rfl rfl (fun w H => Y.c (hpc w H 0 (by omega)) rfl) <| Y.t 15 H rfl rfl (fun w H => Y.s rfl rfl) <| Y.t 16 H rfl rfl (fun w H => Ev.max rfl rfl) ?_
    refine Y.A [1, 17] rfl ⟨⟨_, rfl, ?_⟩, ⟨_, rfl, ?_⟩, trivial⟩
    ·try replace E := E.toBelow hbw14
     refine Y.v (Y.l E 0 rfl rfl rfl) <| Y.z <| ⟨(H), ?_⟩
     refine Y.A [17] rfl ⟨⟨_, rfl, ?_⟩, trivial⟩
     try replace E := E.toBelow hbw14
     refine OPS.buildSlice rfl rfl rfl rfl (bsl_31_1_0 rfl) E ?_
     clear H E; intro g69 w E
     have H := E.drop (L' := [⟨g9, 71, [I (movD ns).sum, I cst, .slice (some ⟨go, 0, none⟩) nl nl, .slice (some ⟨gp, 0, none⟩) mm mm]⟩, ⟨g2, 33, zeroB⟩, ⟨g1, 28, [I m, .slice A l.length ca, .slice B ts.length cb, .slice C ns.length cc, I hd]⟩, ⟨gp, 3, p.map I⟩]) (List.Sublist.cons _ (List.Sublist.cons _ (List.sublist_append_left _ _)))
     refine Y.z <| ⟨(H), ?_⟩
     refine Y.A [18] rfl ⟨⟨_, rfl, ?_⟩, trivial⟩
     generalize (if 0 < p.getD (2 + (colN ns).length + j) 0 - p.getD 0 0 then p.getD (2 + (colN ns).length + j) 0 - p.getD 0 0 else 0) = x at E
     refine OPS.append (m := 1) (news := [I x]) (R := [⟨g69, 3, [I x]⟩, ⟨g8, 33, bndL (divI t (capL ts)) (movD ns).sum AU (colN ns).length cu AV j cv⟩, ⟨g9, 71, [I (movD ns).sum, I cst, .slice (some ⟨go, 0, none⟩) nl nl, .slice (some ⟨gp, 0, none⟩) mm mm]⟩, ⟨g2, 33, zeroB⟩, ⟨g1, 28, [I m, .slice A l.length ca, .slice B ts.length cb, .slice C ns.length cc, I hd]⟩, ⟨gp, 3, p.map I⟩]) rfl rfl rfl rfl rfl (sl_run rfl) rfl rfl hOv rfl (src_own E 0 rfl) rfl (by omega) (by unfold maxLen; omega) E (List.Perm.refl _) ?_
     clear H E; intro AV2 cv2 Lv2 w hOv E
     rw [show vs.map I ++ [I x] = (vs ++ [x]).map I by rw [List.map_append]; rfl] at hOv
     have H := E.drop (L' := [⟨g9, 71, [I (movD ns).sum, I cst, .slice (some ⟨go, 0, none⟩) nl nl, .slice (some ⟨gp, 0, none⟩) mm mm]⟩, ⟨g2, 33, zeroB⟩, ⟨g1, 28, [I m, .slice A l.length ca, .slice B ts.length cb, .slice C ns.length cc, I hd]⟩, ⟨gp, 3, p.map I⟩]) (List.Sublist.cons _ (List.Sublist.cons _ (List.sublist_append_left [_, _, _, _] _)))
     refine Y.z <| ⟨(H), ?_⟩
     refine Y.t 19 H rfl rfl (fun w H => Y.f rfl rfl) ?_
     refine Y.A [20] rfl ⟨⟨_, rfl, ?_⟩, trivial⟩
     unfold bndL at E
     refine Y.st 1 E rfl (cS rfl) rfl ?_
     clear H E; intro w E
     simp only [List.set_cons_zero, List.set_cons_succ, List.cons_append, List.nil_append, putL] at E
     have H := E.drop (L' := [⟨g9, 71, [I (movD ns).sum, I cst, .slice (some ⟨go, 0, none⟩) nl nl, .slice (some ⟨gp, 0, none⟩) mm mm]⟩, ⟨g2, 33, zeroB⟩, ⟨g1, 28, [I m, .slice A l.length ca, .slice B ts.length cb, .slice C ns.length cc, I hd]⟩, ⟨gp, 3, p.map I⟩]) (List.Sublist.cons _ (List.Sublist.cons _ (List.sublist_append_left [_, _, _, _] _)))
     refine Y.z <| ⟨(H), ?_⟩
     refine OPH.done (by kernel_rfl) ?_
     exact ⟨(by repeat (first | exact Agree.refl _ _ | exact Agree.mix _ _ _ | refine Agree.upd rfl ?_ | refine Agree.mix2 rfl ?_)), _, _, _, _, hOv, E.drop (List.sublist_cons_self _ _)⟩
    ·try replace E := E.toBelow hbw14
     refine OPS.buildSlice rfl rfl rfl rfl (bsl_31_1_0 rfl) E ?_
     clear H E; intro g69 w E
     have H := E.drop (L' := [⟨g9, 71, [I (movD ns).sum, I cst, .slice (some ⟨go, 0, none⟩) nl nl, .slice (some ⟨gp, 0, none⟩) mm mm]⟩, ⟨g2, 33, zeroB⟩, ⟨g1, 28, [I m, .slice A l.length ca, .slice B ts.length cb, .slice C ns.length cc, I hd]⟩, ⟨gp, 3, p.map I⟩]) (List.Sublist.cons _ (List.Sublist.cons _ (List.sublist_append_left _ _)))
     refine Y.z <| ⟨(H), ?_⟩
     refine Y.A [1] rfl ⟨⟨_, rfl, ?_⟩, trivial⟩
     try replace E := E.toBelow hbw14
     refine Y.v (Y.l E 1 rfl rfl rfl) <| Y.z <| ⟨(H), ?_⟩
     refine Y.A [18] rfl ⟨⟨_, rfl, ?_⟩, trivial⟩
     generalize (if 0 < p.getD (2 + (colN ns).length + j) 0 - p.getD 0 0 then p.getD (2 + (colN ns).length + j) 0 - p.getD 0 0 else 0) = x at E
     refine OPS.append (m := 1) (news := [I x]) (R := [⟨g69, 3, [I x]⟩, ⟨g8, 33, bndL (divI t (capL ts)) (movD ns).sum AU (colN ns).length cu AV j cv⟩, ⟨g9, 71, [I (movD ns).sum, I cst, .slice (some ⟨go, 0, none⟩) nl nl, .slice (some ⟨gp, 0, none⟩) mm mm]⟩, ⟨g2, 33, zeroB⟩, ⟨g1, 28, [I m, .slice A l.length ca, .slice B ts.length cb, .slice C ns.length cc, I hd]⟩, ⟨gp, 3, p.map I⟩]) rfl rfl rfl rfl rfl (sl_run rfl) rfl rfl hOv rfl (src_own E 0 rfl) rfl (by omega) (by unfold maxLen; omega) E (List.Perm.refl _) ?_
     clear H E; intro AV2 cv2 Lv2 w hOv E
     rw [show vs.map I ++ [I x] = (vs ++ [x]).map I by rw [List.map_append]; rfl] at hOv
     have H := E.drop (L' := [⟨g9, 71, [I (movD ns).sum, I cst, .slice (some ⟨go, 0, none⟩) nl nl, .slice (some ⟨gp, 0, none⟩) mm mm]⟩, ⟨g2, 33, zeroB⟩, ⟨g1, 28, [I m, .slice A l.length ca, .slice B ts.length cb, .slice C ns.length cc, I hd]⟩, ⟨gp, 3, p.map I⟩]) (List.Sublist.cons _ (List.Sublist.cons _ (List.sublist_append_left [_, _, _, _] _)))
     refine Y.z <| ⟨(H), ?_⟩
     refine Y.t 19 H rfl rfl (fun w H => Y.f rfl rfl) ?_
     refine Y.A [20] rfl ⟨⟨_, rfl, ?_⟩, trivial⟩
     unfold bndL at E
     refine Y.st 1 E rfl (cS rfl) rfl ?_
     clear H E; intro w E
     simp only [List.set_cons_zero, List.set_cons_succ, List.cons_append, List.nil_append, putL] at E
     have H := E.drop (L' := [⟨g9, 71, [I (movD ns).sum, I cst, .slice (some ⟨go, 0, none⟩) nl nl, .slice (some ⟨gp, 0, none⟩) mm mm]⟩, ⟨g2, 33, zeroB⟩, ⟨g1, 28, [I m, .slice A l.length ca, .slice B ts.length cb, .slice C ns.length cc, I hd]⟩, ⟨gp, 3, p.map I⟩]) (List.Sublist.cons _ (List.Sublist.cons _ (List.sublist_append_left [_, _, _, _] _)))
     refine Y.z <| ⟨(H), ?_⟩
     refine OPH.done (by kernel_rfl) ?_
     exact ⟨(by repeat (first | exact Agree.refl _ _ | exact Agree.mix _ _ _ | refine Agree.upd rfl ?_ | refine Agree.mix2 rfl ?_)), _, _, _, _, hOv, E.drop (List.sublist_cons_self _ _)⟩
   clear H
   rintro u w ⟨AV, cv, Lv, vs, hOv, H⟩
   refine Y.r <| Y.v (Y.m rfl) <| Y.v (Y.p rfl rfl) <| Y.v (Ev.asI rfl) <| Y.z ?_
   exact ⟨(by repeat (first | exact Agree.refl _ _ | exact Agree.mix _ _ _ | refine Agree.upd rfl ?_ | refine Agree.mix2 rfl ?_)), k - 1, by omega, j + 1, AV, cv, Lv, vs, by omega, rfl, hOv, H⟩
  have hj : j = (briN ns).length := by simp at hc12; omega
  subst hj
  clear hOv
  unfold bndL zeroB at H
  simp only [List.cons_append, List.nil_append] at H
  refine WP.exit <| XB.hit <| Y.qr <| Y.v (Y.o H 0 rfl rfl) <| Y.st 2 H rfl (cA rfl) rfl ?_
  clear H; intro w H; try simp only [List.set_cons_zero, List.set_cons_succ, putL, Nat.zero_add] at H
  refine Y.v (Ev.asI rfl) <| Y.z ?_
  refine WP.ret ⟨[_, _], ⟨(by exact resCellA 2 H rfl (agg_run rfl) (size_run rfl) (by rfl) rfl), rfl, trivial⟩, ?_⟩
  refine ⟨divI t (capL ts), (movD ns).sum, AU, AV, (colN ns).length, cu, (briN ns).length, cv, by rw [h0]; rfl, ⟨fun _ => ⟨fun us vs T hS => by rw [htS us vs T hS], rfl⟩⟩, H.below⟩
 ·have h0' := h0
  refine Calls.ofWPc Try.func12 rfl Try.results12 Try.ntmps12 rfl <| Y.qr <| Y.bx (cA rfl) H ?_
  clear H; intro g1 w H
  refine Y.al H rfl rfl ?_
  clear H; intro g2 w H
  refine Y.v (Ev.asI rfl) <| Y.z <| Y.qr <| Y.v (Y.o H 1 rfl rfl) <| OPS.call (d := some 15) rfl rfl rfl (EvC.func (fun_run rfl)) (r44Least n hd A B C l ts ns ca cb cc w (hN.sh H)) ?_
  rintro _ w ⟨t, er, rfl, hR, hb⟩
  refine ⟨_, rfl, ?_⟩
  replace H := H.toBelow hb; clear hb
  unfold zeroB at *
  refine Y.v (Ev.mvT rfl) <| Y.v (Ev.extract rfl rfl) <| Y.v (Ev.extract rfl rfl) <| Y.v (Ev.asI rfl) <| Y.v (Ev.asI rfl) <| Y.z <| Y.q <| Y.qr <| Y.v (Y.m rfl) <| Y.v (Ev.neq rfl rfl) <| Y.z ?_
  refine WP.cond rfl (fun hc2 => ?_) (fun hc2 => ?_)
  ·refine Y.qr <| Y.v (Ev.build (bld_33_ (e := fun _ => .int .i64 0))) <| Y.v (Y.m rfl) <| Y.st 0 H rfl (cA rfl) rfl ?_
   clear H; intro w H; try simp only [List.set_cons_zero, List.set_cons_succ, putL, Nat.zero_add] at H
   refine Y.v (Ev.asI rfl) <| Y.z ?_
   refine WP.ret ⟨[_, _], ⟨(by exact resCellA 0 H rfl (agg_run rfl) (size_run rfl) (by rfl) rfl), rfl, trivial⟩, ?_⟩
   exact ⟨0, 0, none, none, 0, 0, 0, 0, by rw [← hR.err]; rfl, ⟨fun h => absurd h h0⟩, H.below⟩
  refine Y.k <| Y.q ?_
  exact absurd hc2 (by rw [hR.err]; simp [h0])
end Go.Proofs.Ytgjfjbphngamgaa
