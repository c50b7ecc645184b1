/-
  Walk: push.
-/
import Derived.Test.YthegjmgljolalaaT6
set_option linter.all false
namespace Go.Proofs.Ythegjmgljolalaa
open Go Go.W Go.RowKit

/-- from node k back to f along the steps: the nodes passed, k first, without f -/
def Chain (sts : List Step) (f m : Nat) : List Nat → Nat → Prop
  | [], k => k = f
  | x :: xs, k => k = x ∧ k ≠ f ∧ k < sts.length ∧ ∃ p ai : Nat, (sts.getD k default).from_ = p ∧ (sts.getD k default).arc = ai ∧ ai < m ∧ Chain sts f m xs p
def minI (a b : Int) : Int := if b < a then b else a
def pushMin (sts : List Step) (ks : List Nat) (most : Int) : Int := ks.foldl (fun m k => minI m (sts.getD k default).room) most
def push1 (sts : List Step) (M : Int) (on : List Int) (k : Nat) : List Int :=
  let s := sts.getD k default
  on.set s.arc.toNat (if s.fwd = true then on.getD s.arc.toNat 0 + M else on.getD s.arc.toNat 0 - M)
def pushOn (sts : List Step) (ks : List Nat) (M : Int) (on : List Int) : List Int := ks.foldl (push1 sts M) on
theorem push1_length (sts : List Step) (M : Int) (on : List Int) (k : Nat) : (push1 sts M on k).length = on.length := by simp [push1]
theorem pushOn_length (sts : List Step) (M : Int) : ∀ (ks : List Nat) (on : List Int), (pushOn sts ks M on).length = on.length
  | [], _ => rfl
  | k :: ks, on => by unfold pushOn; rw [List.foldl_cons]; exact (pushOn_length sts M ks _).trans (push1_length sts M on k)

set_option maxHeartbeats 400000 in
theorem flowPush (gon : Nat) (A As : Option Addr) (la cap cap2 cap3 : Nat) (n f t most : Int) (fn tn : Nat) (hf : f = fn) (ht : t = tn) (sts : List Step) (on : List Int) (ks : List Nat) (w0 : World)
    (hs : RowsAt 6 stepCells w0 As sts) (hoff : sts ≠ [] → Off As [gon]) (hch : Chain sts fn on.length ks tn) (hks : ks.length ≤ 1000)
    (hM : -1000000 ≤ pushMin sts ks most ∧ pushMin sts ks most ≤ 1000000) (hon : ∀ i (h : i < on.length), -1000000000 ≤ on[i] ∧ on[i] ≤ 1000000000)
    (H0 : SH w0 [gon] w0 [⟨gon, 3, on.map I⟩]) :
    Calls Try.prog 36 #[.agg #[I n, .slice A la cap, .slice (some ⟨gon, 0, none⟩) on.length cap2], .slice As sts.length cap3, I f, I t, I most] w0
      fun e w' => e = .returned (I (pushMin sts ks most)) ∧ SH w0 [gon] w' [⟨gon, 3, (pushOn sts ks (pushMin sts ks most) on).map I⟩] := by
  subst hf ht
  have H := H0
  refine Calls.ofWP Try.func36 rfl Try.results36 Try.ntmps36 rfl ?_
  refine WP.seq ?_
  refine WP.region ?_
  refine OPS.box rfl rfl rfl rfl (cA rfl) H ?_
  clear H; intro g5 w H
  refine OPS.val rfl rfl rfl (Ev.asI rfl) ?_
  refine OPS.nil ?_
  refine WP.seq ?_
  refine WP.seq ?_
  refine WP.region ?_
  refine OPS.val rfl rfl rfl (Ev.mvI rfl) ?_
  refine OPS.val rfl rfl rfl (Ev.asI rfl) ?_
  refine OPS.nil ?_
  refine WP.block ?_
  refine WP.loop [4, 11, 14, 15, 16, 17, 18, 19, 20, 21, 22, 23, 24, 25, 26, 27, 28] (fun g e w' => w' = w ∧ ∃ (k : Nat) (m : Int) (xs : List Nat), xs.length = g ∧ e 11 = I k ∧ e 4 = I m ∧ Chain sts fn on.length xs k ∧ pushMin sts xs m = pushMin sts ks most) (ks.length) (⟨rfl, tn, most, ks, rfl, rfl, rfl, hch, rfl⟩) ?_
  rintro g u w' ⟨rfl, k, m, xs, hg, h11, h4, hc, hm⟩
  refine WP.know (t := 11) h11 (WP.know (t := 4) h4 ?_)
  refine WP.seq ?_
  refine WP.seq ?_
  refine WP.region ?_
  refine OPS.val rfl rfl rfl (Ev.mvI rfl) ?_
  refine OPS.val rfl rfl rfl (Ev.mvI rfl) ?_
  refine OPS.val rfl rfl rfl (Ev.neq rfl rfl) ?_
  refine OPS.nil ?_
  refine WP.cond rfl (fun hc2 => ?_) (fun hc2 => ?_)
  · have hkf : k ≠ fn := by intro he; simp [he] at hc2
    obtain ⟨x, xs, rfl⟩ : ∃ x xs', xs = x :: xs' := by
      cases xs with
      | nil => exact absurd hc hkf
      | cons x xs => exact ⟨x, xs, rfl⟩
    obtain ⟨rfl, _, hkl, p, ai, hp, hai, hal, hc⟩ := hc
    have hgd : sts.getD k default = sts[k] := by simp [hkl]
    rw [hgd] at hp hai
    obtain ⟨b, o, rfl, hrow⟩ := hs k hkl
    have hb : b ∉ [gon] := hoff (List.ne_nil_of_length_pos (by omega)) b o rfl
    obtain ⟨a0, a1, a2, a3, a4, a5, _⟩ := cellsAt_shS H hb hrow
    refine WP.skip ?_
    refine WP.seq ?_
    refine WP.block ?_
    refine WP.region ?_
    refine OPS.val rfl rfl rfl (Ev.mvI rfl) ?_
    refine OPS.val rfl rfl rfl (Ev.mvS rfl) ?_
    refine OPS.val rfl rfl rfl (Ev.mvI rfl) ?_
    refine OPS.val rfl rfl rfl ((by exact Ev.indexAddr (el_run rfl) (size_run rfl) rfl rfl rfl (by omega))) ?_
    refine OPS.val rfl rfl rfl (Ev.fieldAddr (fld_run rfl) rfl) ?_
    refine OPS.val rfl rfl rfl (Ev.load1 (agg_run rfl) rfl (by assumption)) ?_
    refine OPS.val rfl rfl rfl (Ev.min rfl rfl) ?_
    refine OPS.val rfl rfl rfl (Ev.asI rfl) ?_
    refine OPS.nil ?_
    refine WP.region ?_
    refine OPS.val rfl rfl rfl (Ev.mvS rfl) ?_
    refine OPS.val rfl rfl rfl (Ev.mvI rfl) ?_
    refine OPS.val rfl rfl rfl ((by exact Ev.indexAddr (el_run rfl) (size_run rfl) rfl rfl rfl (by omega))) ?_
    refine OPS.val rfl rfl rfl (Ev.fieldAddr (fld_run rfl) rfl) ?_
    refine OPS.val rfl rfl rfl (Ev.load1 (agg_run rfl) rfl (by assumption)) ?_
    refine OPS.val rfl rfl rfl (Ev.asI rfl) ?_
    refine OPS.nil ?_
    have hm2 : pushMin sts xs (minI m sts[k].room) = pushMin sts ks most := by rw [← hm]; simp only [pushMin, List.foldl_cons, hgd]
    simp only [List.length_cons] at hg
    exact ⟨(by repeat (first | exact Agree.refl _ _ | exact Agree.mix _ _ _ | refine Agree.upd rfl ?_ | refine Agree.mix2 rfl ?_)), xs.length, by omega, rfl, p, minI m sts[k].room, xs, rfl, by rw [← hp]; rfl, rfl, hc, hm2⟩
  have hkf : k = fn := by simp at hc2; omega
  have hxs : xs = [] := by
    cases xs with
    | nil => rfl
    | cons x xs => exact absurd hkf hc.2.1
  subst hxs
  have hm' : m = pushMin sts ks most := hm
  subst hm'
  generalize hMM : pushMin sts ks most = M at *
  refine WP.exit ?_
  refine XB.hit ?_
  refine WP.seq ?_
  refine WP.seq ?_
  refine WP.region ?_
  refine OPS.val rfl rfl rfl (Ev.mvI rfl) ?_
  refine OPS.val rfl rfl rfl (Ev.asI rfl) ?_
  refine OPS.nil ?_
  refine WP.block ?_
  refine WP.loop [12, 30, 31, 32, 33, 34, 35, 36, 37, 38, 39, 40, 41, 42, 43, 44, 45, 46, 47, 48, 49, 50, 51, 52, 53, 54, 55, 56, 57, 58, 59, 60, 61, 62, 63, 64, 65, 66] (fun g e w' => ∃ (k : Nat) (on' : List Int) (xs : List Nat), xs.length = g ∧ g ≤ ks.length ∧ e 12 = I k ∧ SH w0 [gon] w' [⟨g5, 52, [I n, .slice A la cap, .slice (some ⟨gon, 0, none⟩) on.length cap2]⟩, ⟨gon, 3, on'.map I⟩] ∧ Chain sts fn on.length xs k ∧ on'.length = on.length ∧ pushOn sts xs M on' = pushOn sts ks M on ∧ ∀ i (h : i < on'.length), -1000000000 - 1000000 * ((ks.length : Int) - g) ≤ on'[i] ∧ on'[i] ≤ 1000000000 + 1000000 * ((ks.length : Int) - g)) (ks.length) (⟨tn, on, ks, rfl, Nat.le_refl _, rfl, H, hch, rfl, rfl, fun i h => by have := hon i h; omega⟩) ?_
  clear H
  rintro g u2 w ⟨k, on', xs, hg, hgle, h12, H, hc, hol, hpo, hob⟩
  refine WP.know (t := 12) h12 ?_
  refine WP.seq ?_
  refine WP.seq ?_
  refine WP.region ?_
  refine OPS.val rfl rfl rfl (Ev.mvI rfl) ?_
  refine OPS.val rfl rfl rfl (Ev.mvI rfl) ?_
  refine OPS.val rfl rfl rfl (Ev.neq rfl rfl) ?_
  refine OPS.nil ?_
  refine WP.cond rfl (fun hc6 => ?_) (fun hc6 => ?_)
  · have hkf : k ≠ fn := by intro he; simp [he] at hc6
    obtain ⟨x, xs, rfl⟩ : ∃ x xs', xs = x :: xs' := by
      cases xs with
      | nil => exact absurd hc hkf
      | cons x xs => exact ⟨x, xs, rfl⟩
    obtain ⟨rfl, _, hkl, p, ai, hp, hai, hal, hc⟩ := hc
    have hgd : sts.getD k default = sts[k] := by simp [hkl]
    rw [hgd] at hp hai
    obtain ⟨b, o, rfl, hrow⟩ := hs k hkl
    have hb : b ∉ [gon] := hoff (List.ne_nil_of_length_pos (by omega)) b o rfl
    obtain ⟨a0, a1, a2, a3, a4, a5, _⟩ := hrow
    rw [hp] at a0
    rw [hai] at a1
    have hal' : ai < on'.length := by omega
    have hob1 := hob ai hal'
    have hgd2 : on'.getD ai 0 = on'[ai] := by simp [hal']
    simp only [List.length_cons] at hg
    refine WP.skip ?_
    refine WP.seq ?_
    refine WP.block ?_
    refine WP.seq ?_
    refine WP.region ?_
    refine OPS.val rfl rfl rfl (Ev.mvS rfl) ?_
    refine OPS.val rfl rfl rfl (Ev.mvI rfl) ?_
    refine OPS.val rfl rfl rfl ((by exact Ev.indexAddr (el_run rfl) (size_run rfl) rfl rfl rfl (by omega))) ?_
    refine OPS.val rfl rfl rfl (Ev.fieldAddr (fld_run rfl) rfl) ?_
    refine OPS.val rfl rfl rfl (Ev.load1 (agg_run rfl) rfl (by exact H.ldS (by assumption) (by assumption))) ?_
    refine OPS.nil ?_
    refine WP.cond rfl (fun hc8 => ?_) (fun hc8 => ?_)
    · refine WP.rtail 12 mixed (by kernel_rfl) H ?_
      clear H; intro w hbw9 H
      obtain ⟨_, _, e1, hx⟩ := onesOwn H 1 rfl ai hal'
      cases e1
      refine OPS.val rfl rfl rfl (Ev.fieldAddr (fld_run rfl) rfl) ?_
      refine OPS.val rfl rfl rfl (Ev.load1 (agg_run rfl) rfl (by exact H.ldL 0 rfl _ rfl)) ?_
      refine OPS.val rfl rfl rfl (Ev.mvS rfl) ?_
      refine OPS.val rfl rfl rfl (Ev.mvI rfl) ?_
      refine OPS.val rfl rfl rfl ((by exact Ev.indexAddr (el_run rfl) (size_run rfl) rfl rfl rfl (by omega))) ?_
      refine OPS.val rfl rfl rfl (Ev.fieldAddr (fld_run rfl) rfl) ?_
      refine OPS.val rfl rfl rfl (Ev.load1 (agg_run rfl) rfl (by exact H.ldS (by assumption) (by assumption))) ?_
      refine OPS.val rfl rfl rfl ((by exact Ev.indexAddr1 (el_run rfl) (size_run rfl) rfl rfl rfl (by omega))) ?_
      refine OPS.val rfl rfl rfl (Ev.load1 (agg_run rfl) rfl (by assumption)) ?_
      refine OPS.val rfl rfl rfl (Ev.mvI rfl) ?_
      refine OPS.val rfl rfl rfl (Ev.add rfl rfl (by unfold fits; omega)) ?_
      refine OPS.val rfl rfl rfl ((by exact Ev.indexAddr1 (el_run rfl) (size_run rfl) rfl rfl rfl (by omega))) ?_
      refine OPS.nil_s ?_
      refine OPS.store 1 _ rfl rfl rfl (size_run rfl) rfl (cI rfl) rfl rfl H rfl (by simp; omega) ?_
      clear H; intro w H
      have hpl := putL_ones (enc := I) on' ai (on'[ai] + M)
      rw [Nat.zero_add] at H
      replace H : SH w0 [gon] w [⟨g5, 52, [I n, .slice A la cap, .slice (some ⟨gon, 0, none⟩) on.length cap2]⟩, ⟨gon, 3, putL (on'.map I) ai [I (on'[ai] + M)]⟩] := H
      rw [hpl] at H
      have hp1 : push1 sts M on' k = on'.set ai (on'[ai] + M) := by simp only [push1, hgd, hai, Int.toNat_natCast, hgd2, hc8, if_true]
      refine OPS.nil ?_
      refine WP.region ?_
      refine OPS.val rfl rfl rfl (Ev.mvS rfl) ?_
      refine OPS.val rfl rfl rfl (Ev.mvI rfl) ?_
      refine OPS.val rfl rfl rfl ((by exact Ev.indexAddr (el_run rfl) (size_run rfl) rfl rfl rfl (by omega))) ?_
      refine OPS.val rfl rfl rfl (Ev.fieldAddr (fld_run rfl) rfl) ?_
      refine OPS.val rfl rfl rfl (Ev.load1 (agg_run rfl) rfl (by exact H.ldS (by assumption) (by assumption))) ?_
      refine OPS.val rfl rfl rfl (Ev.asI rfl) ?_
      refine OPS.nil ?_
      rw [← hp1] at H
      refine ⟨(by repeat (first | exact Agree.refl _ _ | exact Agree.mix _ _ _ | refine Agree.upd rfl ?_ | refine Agree.mix2 rfl ?_)), xs.length, by omega, p, push1 sts M on' k, xs, rfl, by omega, rfl, H, hc, by rw [push1_length]; exact hol, by rw [← hpo]; simp only [pushOn, List.foldl_cons], fun i h => ?_⟩
      have hi : i < on'.length := by rw [push1_length] at h; exact h
      have hh := hob i hi
      simp only [hp1, List.getElem_set]
      split
      · rename_i he; subst he; omega
      · omega
    refine WP.rtail 12 mixed (by kernel_rfl) H ?_
    clear H; intro w hbw10 H
    obtain ⟨_, _, e1, hx⟩ := onesOwn H 1 rfl ai hal'
    cases e1
    refine OPS.val rfl rfl rfl (Ev.fieldAddr (fld_run rfl) rfl) ?_
    refine OPS.val rfl rfl rfl (Ev.load1 (agg_run rfl) rfl (by exact H.ldL 0 rfl _ rfl)) ?_
    refine OPS.val rfl rfl rfl (Ev.mvS rfl) ?_
    refine OPS.val rfl rfl rfl (Ev.mvI rfl) ?_
    refine OPS.val rfl rfl rfl ((by exact Ev.indexAddr (el_run rfl) (size_run rfl) rfl rfl rfl (by omega))) ?_
    refine OPS.val rfl rfl rfl (Ev.fieldAddr (fld_run rfl) rfl) ?_
    refine OPS.val rfl rfl rfl (Ev.load1 (agg_run rfl) rfl (by exact H.ldS (by assumption) (by assumption))) ?_
    refine OPS.val rfl rfl rfl ((by exact Ev.indexAddr1 (el_run rfl) (size_run rfl) rfl rfl rfl (by omega))) ?_
    refine OPS.val rfl rfl rfl (Ev.load1 (agg_run rfl) rfl (by assumption)) ?_
    refine OPS.val rfl rfl rfl (Ev.mvI rfl) ?_
    refine OPS.val rfl rfl rfl (Ev.sub rfl rfl (by unfold fits; omega)) ?_
    refine OPS.val rfl rfl rfl ((by exact Ev.indexAddr1 (el_run rfl) (size_run rfl) rfl rfl rfl (by omega))) ?_
    refine OPS.nil_s ?_
    refine OPS.store 1 _ rfl rfl rfl (size_run rfl) rfl (cI rfl) rfl rfl H rfl (by simp; omega) ?_
    clear H; intro w H
    have hpl := putL_ones (enc := I) on' ai (on'[ai] - M)
    rw [Nat.zero_add] at H
    replace H : SH w0 [gon] w [⟨g5, 52, [I n, .slice A la cap, .slice (some ⟨gon, 0, none⟩) on.length cap2]⟩, ⟨gon, 3, putL (on'.map I) ai [I (on'[ai] - M)]⟩] := H
    rw [hpl] at H
    have hp1 : push1 sts M on' k = on'.set ai (on'[ai] - M) := by simp only [push1, hgd, hai, Int.toNat_natCast, hgd2, hc8]; rfl
    refine OPS.nil ?_
    refine WP.region ?_
    refine OPS.val rfl rfl rfl (Ev.mvS rfl) ?_
    refine OPS.val rfl rfl rfl (Ev.mvI rfl) ?_
    refine OPS.val rfl rfl rfl ((by exact Ev.indexAddr (el_run rfl) (size_run rfl) rfl rfl rfl (by omega))) ?_
    refine OPS.val rfl rfl rfl (Ev.fieldAddr (fld_run rfl) rfl) ?_
    refine OPS.val rfl rfl rfl (Ev.load1 (agg_run rfl) rfl (by exact H.ldS (by assumption) (by assumption))) ?_
    refine OPS.val rfl rfl rfl (Ev.asI rfl) ?_
    refine OPS.nil ?_
    rw [← hp1] at H
    refine ⟨(by repeat (first | exact Agree.refl _ _ | exact Agree.mix _ _ _ | refine Agree.upd rfl ?_ | refine Agree.mix2 rfl ?_)), xs.length, by omega, p, push1 sts M on' k, xs, rfl, by omega, rfl, H, hc, by rw [push1_length]; exact hol, by rw [← hpo]; simp only [pushOn, List.foldl_cons], fun i h => ?_⟩
    have hi : i < on'.length := by rw [push1_length] at h; exact h
    have hh := hob i hi
    simp only [hp1, List.getElem_set]
    split
    · rename_i he; subst he; omega
    · omega
  refine WP.exit ?_
  refine XB.hit ?_
  refine WP.seq ?_
  refine WP.region ?_
  refine OPS.val rfl rfl rfl (Ev.mvI rfl) ?_
  refine OPS.val rfl rfl rfl (Ev.asI rfl) ?_
  refine OPS.nil ?_
  refine WP.ret ⟨_, rfl, ?_⟩
  have hkf : k = fn := by simp at hc6; omega
  have hxs : xs = [] := by
    cases xs with
    | nil => rfl
    | cons x xs => exact absurd hkf hc.2.1
  subst hxs
  rw [← hpo]
  exact ⟨rfl, H.drop (List.sublist_cons_self _ _)⟩
end Go.Proofs.Ythegjmgljolalaa
