/-
  Walks: Add.
-/
import Derived.Test.YtchjbjplddhknaaW11
import Derived.Test.YtchjbjplddhknaaDFacts
set_option linter.all false
namespace Go.Proofs.Ytchjbjplddhknaa
open Go Go.W Go.RowKit
open Go.Maps (Keyed int_keyed keyOf_int_mk)

def zeroE : Evt := ⟨0, 0, 0, 0, 0, 0, 0, 0, 0⟩
def badE (x : Evt) : Prop := x.s < 1 ∨ 1048576 < x.s ∨ x.a < 0 ∨ x.l < x.a ∨ 4294943999 < x.l
instance (x : Evt) : Decidable (badE x) := by unfold badE; infer_instance
/-- why an event is not added to those of es, or 0 -/
def addE (n : Int) (es : List Evt) (x : Evt) : Int :=
  if x.d < 0 ∨ n ≤ x.d then 7
  else if badE x then 1
  else match es.find? (fun y => sameNum y x) with
    | some y => if y = x then 0 else 21
    | none => if fitB x es = true then 0 else 9
def addL (n : Int) (es : List Evt) (x : Evt) : List Evt := if addE n es x = 0 ∧ x ∉ es then es ++ [x] else es
theorem sameNum_self (x : Evt) : sameNum x x = true := by simp [sameNum]
theorem find_mem {es : List Evt} {x : Evt} (h : es.find? (fun y => sameNum y x) = none) : x ∉ es := fun hx => by
  have := List.find?_eq_none.1 h x hx
  simp [sameNum_self] at this
theorem addR (n : Int) (hn : n ≤ 256) (gR gM : Nat) (es : List Evt) (x : Evt) (w0 : World) (h : RepR w0 n gR gM es) (hl : es.length ≤ 500) :
    Calls Try.prog 14 #[.pointer (some ⟨gR, 0, none⟩), .agg (evC x).toArray] w0 fun e w' => e = .returned (.tuple #[.bool (decide (addE n es x = 0 ∧ x ∉ es)), I (addE n es x)]) ∧ SH w0 [gM] w' [] ∧ RepR w' n gR gM (addL n es x) := by
  have H := SH.refl w0
  have cN : w0.cell? ⟨gR, 0, none⟩ = some (I n) := cell_heap h.st rfl
  have cM : w0.cell? ⟨gR, 1, none⟩ = some (.map (some gM)) := cell_heap h.st rfl
  have hM := h.mp
  have nRM : gR ≠ gM := fun he => by
    obtain ⟨_, _, h1, _⟩ := hM.ex
    rw [← he, h.st] at h1; cases h1
  have fail : ∀ {er : Int} {w : World} {L : List Blk}, SH w0 [] w L → addE n es x = er → er ≠ 0 → (.returned (.tuple #[.bool false, I er]) : Ending) = .returned (.tuple #[.bool (decide (addE n es x = 0 ∧ x ∉ es)), I (addE n es x)]) ∧ SH w0 [gM] w [] ∧ RepR w n gR gM (addL n es x) := by
    intro er w L H he hne
    have h1 : ¬ (addE n es x = 0 ∧ x ∉ es) := fun h => hne (he ▸ h.1)
    refine ⟨by rw [decide_eq_false h1, he], (H.weak (S' := [gM]) (by simp)).drop (List.nil_sublist _), ?_⟩
    rw [addL, if_neg h1]
    exact h.sh H (by simp) (by simp)
  refine Calls.ofWP Try.func14 rfl Try.results14 Try.ntmps14 rfl ?_
  refine WP.seq ?_
  refine WP.region ?_
  refine OPS.box rfl rfl rfl rfl (cA rfl) H ?_
  clear H; intro g3 w H
  refine OPS.val rfl rfl rfl (Ev.asB rfl) ?_
  refine OPS.val rfl rfl rfl (Ev.asI rfl) ?_
  refine OPS.nil ?_
  refine WP.seq ?_
  refine WP.block ?_
  refine WP.seq ?_
  refine WP.region ?_
  refine OPS.val rfl rfl rfl (Ev.mvP rfl) ?_
  refine OPS.val rfl rfl rfl (Ev.eqlPn Try.runUnderlying29 rfl rfl) ?_
  refine OPS.val rfl rfl rfl (Ev.asB rfl) ?_
  refine OPS.nil ?_
  refine WP.cond rfl (fun hc1 => ?_) (fun hc1 => ?_)
  · refine WP.seq ?_
    refine WP.region ?_
    refine OPS.val rfl rfl rfl (Ev.asB rfl) ?_
    refine OPS.val rfl rfl rfl (Ev.asI rfl) ?_
    refine OPS.nil ?_
    refine WP.ret ⟨_, rfl, ?_⟩
    cases hc1
  refine WP.seq ?_
  refine WP.rstill mixed (by kernel_rfl) H ?_
  clear H; intro w hbw3 H
  refine OPS.val rfl rfl rfl (Ev.fieldAddr (fld_run rfl) rfl) ?_
  refine OPS.val rfl rfl rfl (Ev.load1 (agg_run rfl) rfl (by first | exact H.ldL 0 rfl _ rfl | exact H.ldL 1 rfl _ rfl | exact H.ldL 2 rfl _ rfl | exact H.ldL 3 rfl _ rfl | exact H.ldL 4 rfl _ rfl | exact H.ldL 5 rfl _ rfl | exact H.ldL 6 rfl _ rfl | exact H.ldL 7 rfl _ rfl | exact H.ld0 (by assumption) | assumption | exact H.ldS (by assumption) (by assumption))) ?_
  refine OPS.val rfl rfl rfl (Ev.lss rfl rfl) ?_
  refine OPS.val rfl rfl rfl (Ev.mvB rfl) ?_
  refine OPS.gval rfl rfl rfl rfl rfl (fun hg => Ev.fieldAddr (fld_run rfl) (by first | rfl | exact gvE hg rfl)) ?_
  refine OPS.gval rfl rfl rfl rfl rfl (fun hg => Ev.load1 (agg_run rfl) (by first | rfl | exact gvE hg rfl) (by first | exact H.ldL 0 rfl _ rfl | exact H.ldL 1 rfl _ rfl | exact H.ldL 2 rfl _ rfl | exact H.ldL 3 rfl _ rfl | exact H.ldL 4 rfl _ rfl | exact H.ldL 5 rfl _ rfl | exact H.ldL 6 rfl _ rfl | exact H.ldL 7 rfl _ rfl | exact H.ld0 (by assumption) | assumption | exact H.ldS (by assumption) (by assumption))) ?_
  refine OPS.gval rfl rfl rfl rfl rfl (fun hg => Ev.mvP (by first | rfl | exact gvE hg rfl)) ?_
  refine OPS.gval rfl rfl rfl rfl rfl (fun hg => (by first | exact Ev.nilCheckP (by first | rfl | exact gvE hg rfl) | exact Ev.nilCheckF (by first | rfl | exact gvE hg rfl))) ?_
  refine OPS.gval rfl rfl rfl rfl rfl (fun hg => Ev.fieldAddr (fld_run rfl) (by first | rfl | exact gvE hg rfl)) ?_
  refine OPS.gval rfl rfl rfl rfl rfl (fun hg => Ev.load1 (agg_run rfl) (by first | rfl | exact gvE hg rfl) (by first | exact H.ldL 0 rfl _ rfl | exact H.ldL 1 rfl _ rfl | exact H.ldL 2 rfl _ rfl | exact H.ldL 3 rfl _ rfl | exact H.ldL 4 rfl _ rfl | exact H.ldL 5 rfl _ rfl | exact H.ldL 6 rfl _ rfl | exact H.ldL 7 rfl _ rfl | exact H.ld0 (by assumption) | assumption | exact H.ldS (by assumption) (by assumption))) ?_
  refine OPS.gval rfl rfl rfl rfl rfl (fun hg => Ev.geq (by first | rfl | exact gvE hg rfl) (by first | rfl | exact gvE hg rfl)) ?_
  refine OPS.val rfl rfl rfl ((by first | exact Ev.pickOr rfl rfl rfl | exact Ev.pickAnd rfl rfl rfl)) ?_
  refine OPS.val rfl rfl rfl (Ev.asB rfl) ?_
  refine OPS.nil_s ?_
  refine WP.cond rfl (fun hc3 => ?_) (fun hc3 => ?_)
  · refine WP.seq ?_
    refine WP.region ?_
    refine OPS.val rfl rfl rfl (Ev.asB rfl) ?_
    refine OPS.val rfl rfl rfl (Ev.asI rfl) ?_
    refine OPS.nil ?_
    refine WP.ret ⟨_, rfl, ?_⟩
    have h1 : x.d < 0 ∨ n ≤ x.d := by simpa using hc3
    exact fail H (if_pos h1) (by simp)
  have h1 : ¬ (x.d < 0 ∨ n ≤ x.d) := by
    intro h
    have h4 : (decide (x.d < 0) || decide (n ≤ x.d)) = true := by simpa using h
    have h5 := hc3
    rw [h4] at h5; cases h5
  refine WP.seq ?_
  refine WP.region ?_
  refine OPS.val rfl rfl rfl (Ev.fieldAddr (fld_run rfl) rfl) ?_
  refine OPS.val rfl rfl rfl (Ev.load1 (agg_run rfl) rfl (by first | exact H.ldL 0 rfl _ rfl | exact H.ldL 1 rfl _ rfl | exact H.ldL 2 rfl _ rfl | exact H.ldL 3 rfl _ rfl | exact H.ldL 4 rfl _ rfl | exact H.ldL 5 rfl _ rfl | exact H.ldL 6 rfl _ rfl | exact H.ldL 7 rfl _ rfl | exact H.ld0 (by assumption) | assumption | exact H.ldS (by assumption) (by assumption))) ?_
  refine OPS.val rfl rfl rfl (Ev.lss rfl rfl) ?_
  refine OPS.val rfl rfl rfl (Ev.mvB rfl) ?_
  refine OPS.gval rfl rfl rfl rfl rfl (fun hg => Ev.fieldAddr (fld_run rfl) (by first | rfl | exact gvE hg rfl)) ?_
  refine OPS.gval rfl rfl rfl rfl rfl (fun hg => Ev.load1 (agg_run rfl) (by first | rfl | exact gvE hg rfl) (by first | exact H.ldL 0 rfl _ rfl | exact H.ldL 1 rfl _ rfl | exact H.ldL 2 rfl _ rfl | exact H.ldL 3 rfl _ rfl | exact H.ldL 4 rfl _ rfl | exact H.ldL 5 rfl _ rfl | exact H.ldL 6 rfl _ rfl | exact H.ldL 7 rfl _ rfl | exact H.ld0 (by assumption) | assumption | exact H.ldS (by assumption) (by assumption))) ?_
  refine OPS.gval rfl rfl rfl rfl rfl (fun hg => Ev.gtr (by first | rfl | exact gvE hg rfl) (by first | rfl | exact gvE hg rfl)) ?_
  refine OPS.val rfl rfl rfl ((by first | exact Ev.pickOr rfl rfl rfl | exact Ev.pickAnd rfl rfl rfl)) ?_
  refine OPS.val rfl rfl rfl (Ev.mvB rfl) ?_
  refine OPS.gval rfl rfl rfl rfl rfl (fun hg => Ev.fieldAddr (fld_run rfl) (by first | rfl | exact gvE hg rfl)) ?_
  refine OPS.gval rfl rfl rfl rfl rfl (fun hg => Ev.load1 (agg_run rfl) (by first | rfl | exact gvE hg rfl) (by first | exact H.ldL 0 rfl _ rfl | exact H.ldL 1 rfl _ rfl | exact H.ldL 2 rfl _ rfl | exact H.ldL 3 rfl _ rfl | exact H.ldL 4 rfl _ rfl | exact H.ldL 5 rfl _ rfl | exact H.ldL 6 rfl _ rfl | exact H.ldL 7 rfl _ rfl | exact H.ld0 (by assumption) | assumption | exact H.ldS (by assumption) (by assumption))) ?_
  refine OPS.gval rfl rfl rfl rfl rfl (fun hg => Ev.lss (by first | rfl | exact gvE hg rfl) (by first | rfl | exact gvE hg rfl)) ?_
  refine OPS.val rfl rfl rfl ((by first | exact Ev.pickOr rfl rfl rfl | exact Ev.pickAnd rfl rfl rfl)) ?_
  refine OPS.val rfl rfl rfl (Ev.mvB rfl) ?_
  refine OPS.gval rfl rfl rfl rfl rfl (fun hg => Ev.fieldAddr (fld_run rfl) (by first | rfl | exact gvE hg rfl)) ?_
  refine OPS.gval rfl rfl rfl rfl rfl (fun hg => Ev.load1 (agg_run rfl) (by first | rfl | exact gvE hg rfl) (by first | exact H.ldL 0 rfl _ rfl | exact H.ldL 1 rfl _ rfl | exact H.ldL 2 rfl _ rfl | exact H.ldL 3 rfl _ rfl | exact H.ldL 4 rfl _ rfl | exact H.ldL 5 rfl _ rfl | exact H.ldL 6 rfl _ rfl | exact H.ldL 7 rfl _ rfl | exact H.ld0 (by assumption) | assumption | exact H.ldS (by assumption) (by assumption))) ?_
  refine OPS.gval rfl rfl rfl rfl rfl (fun hg => Ev.fieldAddr (fld_run rfl) (by first | rfl | exact gvE hg rfl)) ?_
  refine OPS.gval rfl rfl rfl rfl rfl (fun hg => Ev.load1 (agg_run rfl) (by first | rfl | exact gvE hg rfl) (by first | exact H.ldL 0 rfl _ rfl | exact H.ldL 1 rfl _ rfl | exact H.ldL 2 rfl _ rfl | exact H.ldL 3 rfl _ rfl | exact H.ldL 4 rfl _ rfl | exact H.ldL 5 rfl _ rfl | exact H.ldL 6 rfl _ rfl | exact H.ldL 7 rfl _ rfl | exact H.ld0 (by assumption) | assumption | exact H.ldS (by assumption) (by assumption))) ?_
  refine OPS.gval rfl rfl rfl rfl rfl (fun hg => Ev.gtr (by first | rfl | exact gvE hg rfl) (by first | rfl | exact gvE hg rfl)) ?_
  refine OPS.val rfl rfl rfl ((by first | exact Ev.pickOr rfl rfl rfl | exact Ev.pickAnd rfl rfl rfl)) ?_
  refine OPS.val rfl rfl rfl (Ev.mvB rfl) ?_
  refine OPS.gval rfl rfl rfl rfl rfl (fun hg => Ev.fieldAddr (fld_run rfl) (by first | rfl | exact gvE hg rfl)) ?_
  refine OPS.gval rfl rfl rfl rfl rfl (fun hg => Ev.load1 (agg_run rfl) (by first | rfl | exact gvE hg rfl) (by first | exact H.ldL 0 rfl _ rfl | exact H.ldL 1 rfl _ rfl | exact H.ldL 2 rfl _ rfl | exact H.ldL 3 rfl _ rfl | exact H.ldL 4 rfl _ rfl | exact H.ldL 5 rfl _ rfl | exact H.ldL 6 rfl _ rfl | exact H.ldL 7 rfl _ rfl | exact H.ld0 (by assumption) | assumption | exact H.ldS (by assumption) (by assumption))) ?_
  refine OPS.gval rfl rfl rfl rfl rfl (fun hg => Ev.gtr (by first | rfl | exact gvE hg rfl) (by first | rfl | exact gvE hg rfl)) ?_
  refine OPS.val rfl rfl rfl ((by first | exact Ev.pickOr rfl rfl rfl | exact Ev.pickAnd rfl rfl rfl)) ?_
  refine OPS.val rfl rfl rfl (Ev.asB rfl) ?_
  refine OPS.nil ?_
  refine WP.cond rfl (fun hc5 => ?_) (fun hc5 => ?_)
  · refine WP.seq ?_
    refine WP.region ?_
    refine OPS.val rfl rfl rfl (Ev.asB rfl) ?_
    refine OPS.val rfl rfl rfl (Ev.asI rfl) ?_
    refine OPS.nil ?_
    refine WP.ret ⟨_, rfl, ?_⟩
    have h2 : badE x := by
      have h5 := hc5
      simp only [Bool.or_eq_true, decide_eq_true_eq] at h5
      unfold badE; omega
    exact fail H (by rw [addE, if_neg h1, if_pos h2]) (by simp)
  have h2 : ¬ badE x := by
    intro h
    unfold badE at h
    have h4 : ((((decide (x.s < 1) || decide (1048576 < x.s)) || decide (x.a < 0)) || decide (x.l < x.a)) || decide (4294943999 < x.l)) = true := by
      simp only [Bool.or_eq_true, decide_eq_true_eq]; omega
    have h5 := hc5
    rw [h4] at h5; cases h5
  have hrg : (0 ≤ x.d ∧ x.d < n) ∧ 1 ≤ x.s ∧ x.s ≤ 1048576 := by unfold badE at h2; omega
  obtain ⟨kl, hkl⟩ := keyK (a := x.d) (b := x.s) ⟨by omega, by omega⟩ ⟨by omega, by omega⟩
  obtain ⟨y, fd, hfd, hLk⟩ : ∃ (y : Evt) (fd : Bool), es.find? (fun y => sameNum y x) = (if fd = true then some y else none) ∧
      ∀ {w : World} {L : List Blk}, SH w0 [] w L → ∀ {e : Env} {ty : TypeId} {a ix : Operand}, ev e a = .map (some gM) → ev e ix = .agg #[I x.d, I x.s] → Ev Try.prog e w ty (.lookup 59 a ix true) (.tuple #[.agg (evC y).toArray, .bool fd]) := by
    cases hf : es.find? (fun y => sameNum y x) with
    | none =>
      refine ⟨zeroE, false, by simp, fun H e ty a ix ha hix => ?_⟩
      refine Ev.lookNo (c := true) (z := .agg (evC zeroE).toArray) (hM.sh H (by simp)) (fun p hp he => ?_) kyKey Try.underlying59 (zero_run rfl) hkl ha hix
      obtain ⟨z, hz, rfl⟩ := List.mem_map.1 hp
      have hzz := List.find?_eq_none.1 hf z hz
      have he : (.agg #[I z.d, I z.s] : Value) = .agg #[I x.d, I x.s] := he
      simp at he
      simp [sameNum, he.1, he.2] at hzz
    | some z =>
      have hz := List.mem_of_find?_eq_some hf
      have hs := List.find?_some (p := fun y => sameNum y x) hf
      have hs : z.d = x.d ∧ z.s = x.s := by simpa [sameNum] using hs
      refine ⟨z, true, by simp, fun H e ty a ix ha hix => ?_⟩
      refine Ev.lookYes (c := true) (val := .agg (evC z).toArray) (z := .agg (evC zeroE).toArray) (hM.sh H (by simp)) ?_ kyKey Try.underlying59 (zero_run rfl) hkl ha hix
      refine List.mem_map.2 ⟨z, hz, ?_⟩
      rw [prE, hs.1, hs.2]
  refine WP.skip ?_
  refine WP.seq ?_
  refine WP.region ?_
  refine OPS.val rfl rfl rfl (Ev.fieldAddr (fld_run rfl) rfl) ?_
  refine OPS.val rfl rfl rfl (Ev.load1 (agg_run rfl) rfl (by first | exact H.ldL 0 rfl _ rfl | exact H.ldL 1 rfl _ rfl | exact H.ldL 2 rfl _ rfl | exact H.ldL 3 rfl _ rfl | exact H.ldL 4 rfl _ rfl | exact H.ldL 5 rfl _ rfl | exact H.ldL 6 rfl _ rfl | exact H.ldL 7 rfl _ rfl | exact H.ld0 (by assumption) | assumption | exact H.ldS (by assumption) (by assumption))) ?_
  refine OPS.val rfl rfl rfl (Ev.fieldAddr (fld_run rfl) rfl) ?_
  refine OPS.val rfl rfl rfl (Ev.load1 (agg_run rfl) rfl (by first | exact H.ldL 0 rfl _ rfl | exact H.ldL 1 rfl _ rfl | exact H.ldL 2 rfl _ rfl | exact H.ldL 3 rfl _ rfl | exact H.ldL 4 rfl _ rfl | exact H.ldL 5 rfl _ rfl | exact H.ldL 6 rfl _ rfl | exact H.ldL 7 rfl _ rfl | exact H.ld0 (by assumption) | assumption | exact H.ldS (by assumption) (by assumption))) ?_
  refine OPS.val rfl rfl rfl (Ev.build (bld_78_0_1 rfl rfl)) ?_
  refine OPS.alloc rfl rfl rfl rfl (zero_run rfl) rfl H ?_
  clear H; intro g6 w H
  first | refine OPS.store 0 _ rfl rfl rfl (size_run rfl) rfl (cA rfl) rfl rfl H rfl (by simp) ?_ | refine OPS.store 1 _ rfl rfl rfl (size_run rfl) rfl (cA rfl) rfl rfl H rfl (by simp) ?_ | refine OPS.store 2 _ rfl rfl rfl (size_run rfl) rfl (cA rfl) rfl rfl H rfl (by simp) ?_ | refine OPS.store 3 _ rfl rfl rfl (size_run rfl) rfl (cA rfl) rfl rfl H rfl (by simp) ?_ | refine OPS.store 4 _ rfl rfl rfl (size_run rfl) rfl (cA rfl) rfl rfl H rfl (by simp) ?_ | refine OPS.store 5 _ rfl rfl rfl (size_run rfl) rfl (cA rfl) rfl rfl H rfl (by simp) ?_ | refine OPS.store 6 _ rfl rfl rfl (size_run rfl) rfl (cA rfl) rfl rfl H rfl (by simp) ?_ | refine OPS.store 7 _ rfl rfl rfl (size_run rfl) rfl (cA rfl) rfl rfl H rfl (by simp) ?_ | refine OPS.store 8 _ rfl rfl rfl (size_run rfl) rfl (cA rfl) rfl rfl H rfl (by simp) ?_
  clear H; intro w H; try simp only [List.set_cons_zero, List.set_cons_succ, putL, Nat.zero_add] at H
  refine OPS.nil ?_
  refine WP.seq ?_
  refine WP.seq ?_
  refine WP.rheldC [7, 8, 56, 57, 58, 59, 60, 61, 62, 63, 64] (fun u w' => ∃ g7, u 7 = .pointer (some ⟨g7, 0, none⟩) ∧ u 8 = .bool fd ∧ SH w0 [] w' [⟨g7, 56, evC y⟩, ⟨g6, 78, [I x.d, I x.s]⟩, ⟨g3, 56, evC x⟩]) mixed H ?_ ?_
  · clear H; intro w hbw8 H
    refine OPH.take 0 rfl rfl rfl rfl (by kernel_rfl) (by kernel_rfl) (by kernel_rfl) rfl (by first | exact H | exact H.drop (List.sublist_cons_self _ _) | exact H.drop ((List.sublist_cons_self _ _).trans (List.sublist_cons_self _ _)) | exact H.drop ((List.sublist_cons_self _ _).trans ((List.sublist_cons_self _ _).trans (List.sublist_cons_self _ _))) | exact H.drop ((List.sublist_cons_self _ _).trans ((List.sublist_cons_self _ _).trans ((List.sublist_cons_self _ _).trans (List.sublist_cons_self _ _)))) | exact H.drop ((List.sublist_cons_self _ _).trans ((List.sublist_cons_self _ _).trans ((List.sublist_cons_self _ _).trans ((List.sublist_cons_self _ _).trans (List.sublist_cons_self _ _)))))) (fun w H => Ev.mvP rfl) ?_
    refine OPH.take 1 rfl rfl rfl rfl (by kernel_rfl) (by kernel_rfl) (by kernel_rfl) rfl (by first | exact H | exact H.drop (List.sublist_cons_self _ _) | exact H.drop ((List.sublist_cons_self _ _).trans (List.sublist_cons_self _ _)) | exact H.drop ((List.sublist_cons_self _ _).trans ((List.sublist_cons_self _ _).trans (List.sublist_cons_self _ _))) | exact H.drop ((List.sublist_cons_self _ _).trans ((List.sublist_cons_self _ _).trans ((List.sublist_cons_self _ _).trans (List.sublist_cons_self _ _)))) | exact H.drop ((List.sublist_cons_self _ _).trans ((List.sublist_cons_self _ _).trans ((List.sublist_cons_self _ _).trans ((List.sublist_cons_self _ _).trans (List.sublist_cons_self _ _)))))) (fun w H => (by first | exact Ev.nilCheckP rfl | exact Ev.nilCheckF rfl)) ?_
    refine OPH.take 2 rfl rfl rfl rfl (by kernel_rfl) (by kernel_rfl) (by kernel_rfl) rfl (by first | exact H | exact H.drop (List.sublist_cons_self _ _) | exact H.drop ((List.sublist_cons_self _ _).trans (List.sublist_cons_self _ _)) | exact H.drop ((List.sublist_cons_self _ _).trans ((List.sublist_cons_self _ _).trans (List.sublist_cons_self _ _))) | exact H.drop ((List.sublist_cons_self _ _).trans ((List.sublist_cons_self _ _).trans ((List.sublist_cons_self _ _).trans (List.sublist_cons_self _ _)))) | exact H.drop ((List.sublist_cons_self _ _).trans ((List.sublist_cons_self _ _).trans ((List.sublist_cons_self _ _).trans ((List.sublist_cons_self _ _).trans (List.sublist_cons_self _ _)))))) (fun w H => Ev.fieldAddr (fld_run rfl) rfl) ?_
    refine OPH.take 3 rfl rfl rfl rfl (by kernel_rfl) (by kernel_rfl) (by kernel_rfl) rfl (by first | exact H | exact H.drop (List.sublist_cons_self _ _) | exact H.drop ((List.sublist_cons_self _ _).trans (List.sublist_cons_self _ _)) | exact H.drop ((List.sublist_cons_self _ _).trans ((List.sublist_cons_self _ _).trans (List.sublist_cons_self _ _))) | exact H.drop ((List.sublist_cons_self _ _).trans ((List.sublist_cons_self _ _).trans ((List.sublist_cons_self _ _).trans (List.sublist_cons_self _ _)))) | exact H.drop ((List.sublist_cons_self _ _).trans ((List.sublist_cons_self _ _).trans ((List.sublist_cons_self _ _).trans ((List.sublist_cons_self _ _).trans (List.sublist_cons_self _ _)))))) (fun w H => Ev.load1 (agg_run rfl) rfl (H.ld0 cM)) ?_
    refine OPH.take 4 rfl rfl rfl rfl (by kernel_rfl) (by kernel_rfl) (by kernel_rfl) rfl (by first | exact H | exact H.drop (List.sublist_cons_self _ _) | exact H.drop ((List.sublist_cons_self _ _).trans (List.sublist_cons_self _ _)) | exact H.drop ((List.sublist_cons_self _ _).trans ((List.sublist_cons_self _ _).trans (List.sublist_cons_self _ _))) | exact H.drop ((List.sublist_cons_self _ _).trans ((List.sublist_cons_self _ _).trans ((List.sublist_cons_self _ _).trans (List.sublist_cons_self _ _)))) | exact H.drop ((List.sublist_cons_self _ _).trans ((List.sublist_cons_self _ _).trans ((List.sublist_cons_self _ _).trans ((List.sublist_cons_self _ _).trans (List.sublist_cons_self _ _)))))) (fun w H => Ev.loadO 0 H rfl (agg_run rfl) (size_run rfl) rfl rfl) ?_
    refine OPH.take 5 rfl rfl rfl rfl (by kernel_rfl) (by kernel_rfl) (by kernel_rfl) rfl (by first | exact H | exact H.drop (List.sublist_cons_self _ _) | exact H.drop ((List.sublist_cons_self _ _).trans (List.sublist_cons_self _ _)) | exact H.drop ((List.sublist_cons_self _ _).trans ((List.sublist_cons_self _ _).trans (List.sublist_cons_self _ _))) | exact H.drop ((List.sublist_cons_self _ _).trans ((List.sublist_cons_self _ _).trans ((List.sublist_cons_self _ _).trans (List.sublist_cons_self _ _)))) | exact H.drop ((List.sublist_cons_self _ _).trans ((List.sublist_cons_self _ _).trans ((List.sublist_cons_self _ _).trans ((List.sublist_cons_self _ _).trans (List.sublist_cons_self _ _)))))) (fun w H => hLk H rfl rfl) ?_
    refine OPH.take 6 rfl rfl rfl rfl (by kernel_rfl) (by kernel_rfl) (by kernel_rfl) rfl (by first | exact H | exact H.drop (List.sublist_cons_self _ _) | exact H.drop ((List.sublist_cons_self _ _).trans (List.sublist_cons_self _ _)) | exact H.drop ((List.sublist_cons_self _ _).trans ((List.sublist_cons_self _ _).trans (List.sublist_cons_self _ _))) | exact H.drop ((List.sublist_cons_self _ _).trans ((List.sublist_cons_self _ _).trans ((List.sublist_cons_self _ _).trans (List.sublist_cons_self _ _)))) | exact H.drop ((List.sublist_cons_self _ _).trans ((List.sublist_cons_self _ _).trans ((List.sublist_cons_self _ _).trans ((List.sublist_cons_self _ _).trans (List.sublist_cons_self _ _)))))) (fun w H => Ev.mvT rfl) ?_
    refine OPH.take 7 rfl rfl rfl rfl (by kernel_rfl) (by kernel_rfl) (by kernel_rfl) rfl (by first | exact H | exact H.drop (List.sublist_cons_self _ _) | exact H.drop ((List.sublist_cons_self _ _).trans (List.sublist_cons_self _ _)) | exact H.drop ((List.sublist_cons_self _ _).trans ((List.sublist_cons_self _ _).trans (List.sublist_cons_self _ _))) | exact H.drop ((List.sublist_cons_self _ _).trans ((List.sublist_cons_self _ _).trans ((List.sublist_cons_self _ _).trans (List.sublist_cons_self _ _)))) | exact H.drop ((List.sublist_cons_self _ _).trans ((List.sublist_cons_self _ _).trans ((List.sublist_cons_self _ _).trans ((List.sublist_cons_self _ _).trans (List.sublist_cons_self _ _)))))) (fun w H => Ev.extract rfl rfl) ?_
    refine OPH.take 8 rfl rfl rfl rfl (by kernel_rfl) (by kernel_rfl) (by kernel_rfl) rfl (by first | exact H | exact H.drop (List.sublist_cons_self _ _) | exact H.drop ((List.sublist_cons_self _ _).trans (List.sublist_cons_self _ _)) | exact H.drop ((List.sublist_cons_self _ _).trans ((List.sublist_cons_self _ _).trans (List.sublist_cons_self _ _))) | exact H.drop ((List.sublist_cons_self _ _).trans ((List.sublist_cons_self _ _).trans ((List.sublist_cons_self _ _).trans (List.sublist_cons_self _ _)))) | exact H.drop ((List.sublist_cons_self _ _).trans ((List.sublist_cons_self _ _).trans ((List.sublist_cons_self _ _).trans ((List.sublist_cons_self _ _).trans (List.sublist_cons_self _ _)))))) (fun w H => Ev.extract rfl rfl) ?_
    refine OPH.all [9] (by kernel_rfl) (by simp) rfl ?_
    intro i hi; simp only [List.mem_cons, List.not_mem_nil, or_false] at hi
    rcases hi with rfl
    · refine ⟨_, rfl, ?_⟩
      refine OPS.alloc rfl rfl rfl rfl (zero_run rfl) rfl H ?_
      clear H; intro g7 w H
      refine OPS.nil ?_
      refine ⟨(by first | exact H | exact H.drop (List.sublist_cons_self _ _) | exact H.drop ((List.sublist_cons_self _ _).trans (List.sublist_cons_self _ _)) | exact H.drop ((List.sublist_cons_self _ _).trans ((List.sublist_cons_self _ _).trans (List.sublist_cons_self _ _))) | exact H.drop ((List.sublist_cons_self _ _).trans ((List.sublist_cons_self _ _).trans ((List.sublist_cons_self _ _).trans (List.sublist_cons_self _ _)))) | exact H.drop ((List.sublist_cons_self _ _).trans ((List.sublist_cons_self _ _).trans ((List.sublist_cons_self _ _).trans ((List.sublist_cons_self _ _).trans (List.sublist_cons_self _ _)))))), ?_⟩
      refine OPH.all [10] (by kernel_rfl) (by simp) rfl ?_
      intro i hi; simp only [List.mem_cons, List.not_mem_nil, or_false] at hi
      rcases hi with rfl
      · refine ⟨_, rfl, ?_⟩
        first | refine OPS.store 0 _ rfl rfl rfl (size_run rfl) rfl (cA rfl) rfl rfl H rfl (by simp) ?_ | refine OPS.store 1 _ rfl rfl rfl (size_run rfl) rfl (cA rfl) rfl rfl H rfl (by simp) ?_ | refine OPS.store 2 _ rfl rfl rfl (size_run rfl) rfl (cA rfl) rfl rfl H rfl (by simp) ?_ | refine OPS.store 3 _ rfl rfl rfl (size_run rfl) rfl (cA rfl) rfl rfl H rfl (by simp) ?_ | refine OPS.store 4 _ rfl rfl rfl (size_run rfl) rfl (cA rfl) rfl rfl H rfl (by simp) ?_ | refine OPS.store 5 _ rfl rfl rfl (size_run rfl) rfl (cA rfl) rfl rfl H rfl (by simp) ?_ | refine OPS.store 6 _ rfl rfl rfl (size_run rfl) rfl (cA rfl) rfl rfl H rfl (by simp) ?_ | refine OPS.store 7 _ rfl rfl rfl (size_run rfl) rfl (cA rfl) rfl rfl H rfl (by simp) ?_ | refine OPS.store 8 _ rfl rfl rfl (size_run rfl) rfl (cA rfl) rfl rfl H rfl (by simp) ?_
        clear H; intro w H; try simp only [List.set_cons_zero, List.set_cons_succ, putL, Nat.zero_add] at H
        refine OPS.nil ?_
        refine ⟨(by first | exact H | exact H.drop (List.sublist_cons_self _ _) | exact H.drop ((List.sublist_cons_self _ _).trans (List.sublist_cons_self _ _)) | exact H.drop ((List.sublist_cons_self _ _).trans ((List.sublist_cons_self _ _).trans (List.sublist_cons_self _ _))) | exact H.drop ((List.sublist_cons_self _ _).trans ((List.sublist_cons_self _ _).trans ((List.sublist_cons_self _ _).trans (List.sublist_cons_self _ _)))) | exact H.drop ((List.sublist_cons_self _ _).trans ((List.sublist_cons_self _ _).trans ((List.sublist_cons_self _ _).trans ((List.sublist_cons_self _ _).trans (List.sublist_cons_self _ _)))))), ?_⟩
        refine OPH.take 11 rfl rfl rfl rfl (by kernel_rfl) (by kernel_rfl) (by kernel_rfl) rfl (by first | exact H | exact H.drop (List.sublist_cons_self _ _) | exact H.drop ((List.sublist_cons_self _ _).trans (List.sublist_cons_self _ _)) | exact H.drop ((List.sublist_cons_self _ _).trans ((List.sublist_cons_self _ _).trans (List.sublist_cons_self _ _))) | exact H.drop ((List.sublist_cons_self _ _).trans ((List.sublist_cons_self _ _).trans ((List.sublist_cons_self _ _).trans (List.sublist_cons_self _ _)))) | exact H.drop ((List.sublist_cons_self _ _).trans ((List.sublist_cons_self _ _).trans ((List.sublist_cons_self _ _).trans ((List.sublist_cons_self _ _).trans (List.sublist_cons_self _ _)))))) (fun w H => Ev.asB rfl) ?_
        refine OPH.done (by kernel_rfl) ?_
        exact ⟨(by repeat (first | exact Agree.refl _ _ | exact Agree.mix _ _ _ | refine Agree.upd rfl ?_ | refine Agree.mix2 rfl ?_)), g7, rfl, rfl, H⟩
  clear H
  rintro u w ⟨g7, h7, h8, H⟩
  refine WP.know (t := 7) h7 (WP.know (t := 8) h8 ?_)
  dsimp only [evC] at H
  refine WP.seq ?_
  refine WP.region ?_
  refine OPS.val rfl rfl rfl (Ev.mvB rfl) ?_
  refine OPS.nil ?_
  refine WP.cond rfl (fun hc9 => ?_) (fun hc9 => ?_)
  · obtain rfl : fd = true := hc9
    have hfd : es.find? (fun y => sameNum y x) = some y := by simpa using hfd
    have hadd : addE n es x = if y = x then 0 else 21 := by rw [addE, if_neg h1, if_neg h2, hfd]
    refine WP.seq ?_
    refine WP.seq ?_
    refine WP.region ?_
    refine OPS.val rfl rfl rfl (Ev.loadO 0 H rfl (agg_run rfl) (size_run rfl) rfl rfl) ?_
    refine OPS.val rfl rfl rfl (Ev.loadO 2 H rfl (agg_run rfl) (size_run rfl) rfl rfl) ?_
    refine OPS.val rfl rfl rfl (Ev.neqA eqG56 (eqS56 y x) rfl rfl) ?_
    refine OPS.nil ?_
    refine WP.cond rfl (fun hc10 => ?_) (fun hc10 => ?_)
    · refine WP.seq ?_
      refine WP.region ?_
      refine OPS.val rfl rfl rfl (Ev.asB rfl) ?_
      refine OPS.val rfl rfl rfl (Ev.asI rfl) ?_
      refine OPS.nil ?_
      refine WP.ret ⟨_, rfl, ?_⟩
      have hne : y ≠ x := by simpa using hc10
      exact fail H (by rw [hadd, if_neg hne]) (by simp)
    refine WP.skip ?_
    refine WP.seq ?_
    refine WP.region ?_
    refine OPS.val rfl rfl rfl (Ev.asB rfl) ?_
    refine OPS.val rfl rfl rfl (Ev.asI rfl) ?_
    refine OPS.nil ?_
    refine WP.ret ⟨_, rfl, ?_⟩
    have heq : y = x := by simpa using hc10
    rw [if_pos heq] at hadd
    have hxe : x ∈ es := heq ▸ List.mem_of_find?_eq_some hfd
    have h3 : ¬ (addE n es x = 0 ∧ x ∉ es) := fun h => h.2 hxe
    refine ⟨by rw [decide_eq_false h3, hadd]; rfl, (H.weak (S' := [gM]) (by simp)).drop (List.nil_sublist _), ?_⟩
    rw [addL, if_neg h3]
    exact h.sh H (by simp) (by simp)
  obtain rfl : fd = false := hc9
  have hfd : es.find? (fun y => sameNum y x) = none := by simpa using hfd
  have hadd : addE n es x = if fitB x es = true then 0 else 9 := by rw [addE, if_neg h1, if_neg h2, hfd]
  have hxe := find_mem hfd
  refine WP.skip ?_
  refine WP.seq ?_
  refine WP.block ?_
  refine WP.seq ?_
  refine WP.region ?_
  refine OPS.val rfl rfl rfl (Ev.mvP rfl) ?_
  refine OPS.val rfl rfl rfl (Ev.loadO 2 H rfl (agg_run rfl) (size_run rfl) rfl rfl) ?_
  refine OPS.call (d := some 72) rfl rfl rfl (EvC.func (fun_run rfl)) (fitsR n gR gM es x _ (h.sh H (by simp) (by simp)) (by omega)) ?_
  rintro _ w ⟨rfl, hb⟩
  refine ⟨_, rfl, ?_⟩
  replace H := H.toBelow hb; clear hb
  refine OPS.val rfl rfl rfl (Ev.not rfl) ?_
  refine OPS.val rfl rfl rfl (Ev.asB rfl) ?_
  refine OPS.nil ?_
  refine WP.cond rfl (fun hc13 => ?_) (fun hc13 => ?_)
  · refine WP.seq ?_
    refine WP.region ?_
    refine OPS.val rfl rfl rfl (Ev.asB rfl) ?_
    refine OPS.val rfl rfl rfl (Ev.asI rfl) ?_
    refine OPS.nil ?_
    refine WP.ret ⟨_, rfl, ?_⟩
    have hft : ¬ fitB x es = true := by simpa using hc13
    exact fail H (by rw [hadd, if_neg hft]) (by simp)
  have hft : fitB x es = true := by simpa using hc13
  rw [if_pos hft] at hadd
  refine WP.seq ?_
  refine WP.region ?_
  refine OPS.val rfl rfl rfl (Ev.mvP rfl) ?_
  refine OPS.val rfl rfl rfl ((by first | exact Ev.nilCheckP rfl | exact Ev.nilCheckF rfl)) ?_
  refine OPS.val rfl rfl rfl (Ev.fieldAddr (fld_run rfl) rfl) ?_
  refine OPS.val rfl rfl rfl (Ev.load1 (agg_run rfl) rfl (H.ld0 cM)) ?_
  refine OPS.val rfl rfl rfl (Ev.lenMap (hM.sh H (by simp)) Try.underlying59 rfl) ?_
  refine OPS.val rfl rfl rfl (Ev.geq rfl rfl) ?_
  refine OPS.val rfl rfl rfl (Ev.asB rfl) ?_
  refine OPS.nil ?_
  refine WP.cond rfl (fun hc15 => ?_) (fun hc15 => ?_)
  · refine WP.seq ?_
    have h5 := of_decide_eq_true hc15
    rw [List.length_map] at h5
    omega
  refine WP.skip ?_
  refine WP.seq ?_
  have hMw := hM.sh H (by simp)
  have nR : gR ∉ [gM] := by simpa using nRM
  replace H := H.weak (S' := [gM]) (by simp)
  refine WP.rtail 6 mixed (by kernel_rfl) H ?_
  clear H; intro w hbw17 H
  refine OPS.val rfl rfl rfl (Ev.mvP rfl) ?_
  refine OPS.val rfl rfl rfl ((by first | exact Ev.nilCheckP rfl | exact Ev.nilCheckF rfl)) ?_
  refine OPS.val rfl rfl rfl (Ev.fieldAddr (fld_run rfl) rfl) ?_
  refine OPS.val rfl rfl rfl (Ev.load1 (agg_run rfl) rfl (H.ldS cM nR)) ?_
  refine OPS.val rfl rfl rfl (Ev.loadO 1 H rfl (agg_run rfl) (size_run rfl) rfl rfl) ?_
  refine OPS.val rfl rfl rfl (Ev.loadO 2 H rfl (agg_run rfl) (size_run rfl) rfl rfl) ?_
  refine OPS.nil_s ?_
  refine OPS.putMap rfl rfl rfl (hMw.below hbw17) kyKey Try.underlying59 hkl rfl rfl rfl H (.inl (by simp)) ?_
  clear H; intro w m' H hM' hoth hm1 hm2
  refine OPS.nil ?_
  refine WP.seq ?_
  refine WP.region ?_
  refine OPS.val rfl rfl rfl (Ev.asB rfl) ?_
  refine OPS.val rfl rfl rfl (Ev.asI rfl) ?_
  refine OPS.nil ?_
  refine WP.ret ⟨_, rfl, ?_⟩
  have h3 : addE n es x = 0 ∧ x ∉ es := ⟨hadd, hxe⟩
  have hmm := hm2 (fun p hp he => by
    obtain ⟨z, hz, rfl⟩ := List.mem_map.1 hp
    have hzz := List.find?_eq_none.1 hfd z hz
    have he : (.agg #[I z.d, I z.s] : Value) = .agg #[I x.d, I x.s] := he
    simp at he
    simp [sameNum, he.1, he.2] at hzz)
  subst hmm
  refine ⟨by rw [decide_eq_true h3, hadd]; rfl, H.drop (List.nil_sublist _), ?_⟩
  rw [addL, if_pos h3]
  refine ⟨(H.low gR (Array.getElem?_eq_some_iff.1 h.st).1 nR).trans h.st, ?_, fun z hz => ?_⟩
  · rw [List.map_append]; exact hM'
  · rcases List.mem_append.1 hz with hz | hz
    · exact h.ok z hz
    · rw [List.mem_singleton.1 hz]
      exact ⟨hrg.1.1, hrg.1.2, hrg.2.1, hrg.2.2⟩
end Go.Proofs.Ytchjbjplddhknaa

/-
  Plain: replicas that hold the same events give the same list in order.
-/
set_option linter.all false
namespace Go.Proofs.Ytchjbjplddhknaa
open Go Go.W Go.RowKit

/-- events that stand together: numbers differ, devices are in the order of time, ranges are right -/
structure Good (n : Int) (es : List Evt) : Prop where
  rng : ∀ x ∈ es, ¬ (x.d < 0 ∨ n ≤ x.d) ∧ ¬ badE x
  two : es.Pairwise fun y x => sameNum y x = false ∧ confE y x = false
theorem confE_comm (x y : Evt) : confE x y = confE y x := by
  rw [Bool.eq_iff_iff]
  unfold confE
  simp only [Bool.and_eq_true, Bool.or_eq_true, decide_eq_true_eq]
  constructor <;> rintro ⟨h1, h2⟩ <;> exact ⟨h1.symm, by omega⟩
theorem confE_self (x : Evt) : confE x x = false := by simp [confE]
theorem Good.nil (n : Int) : Good n [] := ⟨fun _ h => (by cases h), List.Pairwise.nil⟩
theorem Good.eq {n : Int} {es : List Evt} (h : Good n es) {x y : Evt} (hx : x ∈ es) (hy : y ∈ es) (hs : sameNum y x = true) : y = x := by
  obtain ⟨i, hi, rfl⟩ := List.mem_iff_getElem.1 hx
  obtain ⟨j, hj, rfl⟩ := List.mem_iff_getElem.1 hy
  have h2 := List.pairwise_iff_getElem.1 h.two
  rcases Nat.lt_trichotomy i j with hlt | rfl | hgt
  · have := (h2 i j hi hj hlt).1
    rw [sameNum_comm, hs] at this; cases this
  · rfl
  · have := (h2 j i hj hi hgt).1
    rw [hs] at this; cases this
theorem Good.conf {n : Int} {es : List Evt} (h : Good n es) {x y : Evt} (hx : x ∈ es) (hy : y ∈ es) : confE y x = false := by
  obtain ⟨i, hi, rfl⟩ := List.mem_iff_getElem.1 hx
  obtain ⟨j, hj, rfl⟩ := List.mem_iff_getElem.1 hy
  have h2 := List.pairwise_iff_getElem.1 h.two
  rcases Nat.lt_trichotomy i j with hlt | rfl | hgt
  · rw [confE_comm]; exact (h2 i j hi hj hlt).2
  · exact confE_self _
  · exact (h2 j i hj hi hgt).2
theorem Good.nodup {n : Int} {es : List Evt} (h : Good n es) : es.Nodup := by
  refine h.two.imp ?_
  rintro a b ⟨h1, _⟩ rfl
  rw [sameNum_self] at h1; cases h1
theorem Good.add {n : Int} {es : List Evt} {x : Evt} (h : Good n es) : Good n (addL n es x) := by
  unfold addL
  split
  · rename_i hc
    obtain ⟨hc, hx⟩ := hc
    rw [addE] at hc
    split at hc
    · cases hc
    rename_i h1
    split at hc
    · cases hc
    rename_i h2
    cases hf : es.find? (fun y => sameNum y x) with
    | some y =>
      rw [hf] at hc
      simp only at hc
      split at hc
      · rename_i he
        exact absurd (he ▸ List.mem_of_find?_eq_some hf) hx
      · cases hc
    | none =>
      rw [hf] at hc
      simp only at hc
      split at hc
      · rename_i hft
        refine ⟨fun z hz => ?_, ?_⟩
        · rcases List.mem_append.1 hz with hz | hz
          · exact h.rng z hz
          · rw [List.mem_singleton.1 hz]; exact ⟨h1, h2⟩
        · rw [List.pairwise_append]
          refine ⟨h.two, by simp, fun a ha b hb => ?_⟩
          rw [List.mem_singleton.1 hb]
          refine ⟨by simpa using List.find?_eq_none.1 hf a ha, ?_⟩
          rw [fitB, List.all_eq_true] at hft
          simpa using hft a ha
      · cases hc
  · exact h
theorem addL_mem {n : Int} {es : List Evt} {x : Evt} (h : addE n es x = 0) : ∀ y, y ∈ addL n es x ↔ y ∈ es ∨ y = x := by
  intro y
  unfold addL
  by_cases hx : x ∈ es
  · rw [if_neg (fun h => h.2 hx)]
    refine ⟨.inl, ?_⟩
    rintro (h | rfl)
    · exact h
    · exact hx
  · rw [if_pos ⟨h, hx⟩]; simp
theorem addL_sub {n : Int} {es : List Evt} {x : Evt} : ∀ y, y ∈ es → y ∈ addL n es x := by
  intro y hy
  unfold addL
  split
  · exact List.mem_append_left _ hy
  · exact hy
theorem addL_len (n : Int) (es : List Evt) (x : Evt) : (addL n es x).length ≤ es.length + 1 := by
  unfold addL
  split <;> simp
theorem addL_nodup {n : Int} {es : List Evt} {x : Evt} (h : es.Nodup) : (addL n es x).Nodup := by
  unfold addL
  split
  · rename_i hc
    rw [List.nodup_append]
    refine ⟨h, by simp, fun a ha b hb he => ?_⟩
    rw [List.mem_singleton.1 hb] at he
    exact hc.2 (he ▸ ha)
  · exact h
/-- an event of a good list can be added to any part of it -/
theorem Good.take {n : Int} {G es : List Evt} {x : Evt} (h : Good n G) (hs : ∀ y ∈ es, y ∈ G) (hx : x ∈ G) : addE n es x = 0 := by
  have hr := h.rng x hx
  rw [addE, if_neg hr.1, if_neg hr.2]
  cases hf : es.find? (fun y => sameNum y x) with
  | some y =>
    have h1 := h.eq hx (hs y (List.mem_of_find?_eq_some hf)) (List.find?_some (p := fun y => sameNum y x) hf)
    exact if_pos h1
  | none =>
    refine if_pos ?_
    rw [fitB, List.all_eq_true]
    intro y hy
    simp [h.conf hx (hs y hy)]
/-- what a merge makes -/
def mrgL (n : Int) (es : List Evt) (xs : List Evt) : List Evt := xs.foldl (addL n) es
theorem mrg_ok {n : Int} {G : List Evt} (h : Good n G) : ∀ (xs es : List Evt), (∀ y ∈ es, y ∈ G) → (∀ y ∈ xs, y ∈ G) → es.Nodup → (∀ y, y ∈ mrgL n es xs ↔ y ∈ es ∨ y ∈ xs) ∧ (mrgL n es xs).Nodup
  | [], es, _, _, hn => ⟨fun y => by simp [mrgL], hn⟩
  | x :: xs, es, h1, h2, hn => by
    have hx := h2 x (List.mem_cons_self ..)
    have h0 := h.take h1 hx
    have hm := addL_mem h0
    obtain ⟨i1, i2⟩ := mrg_ok h xs (addL n es x) (fun y hy => by
      rcases (hm y).1 hy with h3 | rfl
      · exact h1 y h3
      · exact hx) (fun y hy => h2 y (List.mem_cons_of_mem _ hy)) (addL_nodup hn)
    refine ⟨fun y => ?_, i2⟩
    show y ∈ mrgL n (addL n es x) xs ↔ _
    rw [i1, hm, List.mem_cons]
    constructor
    · rintro ((h | h) | h)
      · exact .inl h
      · exact .inr (.inl h)
      · exact .inr (.inr h)
    · rintro (h | h | h)
      · exact .inl (.inl h)
      · exact .inl (.inr h)
      · exact .inr h
theorem mrg_len (n : Int) : ∀ (xs es : List Evt), (mrgL n es xs).length ≤ es.length + xs.length
  | [], es => by simp [mrgL]
  | x :: xs, es => by
    have := mrg_len n xs (addL n es x)
    have h2 := addL_len n es x
    show (mrgL n (addL n es x) xs).length ≤ _
    simp only [List.length_cons]; omega
def srtE (es : List Evt) : List Evt := es.mergeSort evLe
theorem srtE_perm (es : List Evt) : (srtE es).Perm es := List.mergeSort_perm _ _
theorem srtE_len (es : List Evt) : (srtE es).length = es.length := List.length_mergeSort _
theorem srtE_srt (es : List Evt) : (srtE es).Pairwise fun x y => evLe x y = true := List.pairwise_mergeSort (le := evLe) (fun a b c h1 h2 => evLe_trans a b c h1 h2) (fun a b => evLe_total a b) _
theorem Good.ok {n : Int} {G : List Evt} (h : Good n G) : EvOk (srtE G) := by
  refine ⟨srtE_srt G, ?_⟩
  have h2 : G.Pairwise fun x y => sameNum x y = false := h.two.imp fun h => h.1
  exact ((srtE_perm G).pairwise_iff (fun {x y} h => by rw [sameNum_comm]; exact h)).2 h2
theorem srt_same {es G : List Evt} (h1 : es.Nodup) (h2 : G.Nodup) (hm : ∀ y, y ∈ es ↔ y ∈ G) : srtE es = srtE G :=
  sort_unique (srtE_srt G) (((List.perm_ext_iff_of_nodup h1 h2).2 hm).trans (srtE_perm G).symm)
end Go.Proofs.Ytchjbjplddhknaa

/-
  Walks: Events.
-/
set_option linter.all false
namespace Go.Proofs.Ytchjbjplddhknaa
open Go Go.W Go.RowKit

theorem events (n : Int) (gR gM : Nat) (es : List Evt) (w0 : World) (h : RepR w0 n gR gM es) (hl : es.length ≤ 1000) :
    Calls Try.prog 7 #[.pointer (some ⟨gR, 0, none⟩)] w0 fun e w' => ∃ (A : Option Addr) (c : Nat) (Lo : List Blk), e = .returned (.slice A es.length c) ∧ OwnS A c es.length ((es.mergeSort evLe).flatMap evC) 56 9 Lo ∧ SH w0 [] w' Lo := by
  have H := SH.refl w0
  refine Calls.ofWP Try.func7 rfl Try.results7 Try.ntmps7 rfl ?_
  refine WP.seq ?_
  refine WP.region ?_
  refine OPS.val rfl rfl rfl (Ev.asS rfl) ?_
  refine OPS.nil ?_
  refine WP.seq ?_
  refine WP.region ?_
  refine OPS.val rfl rfl rfl (Ev.mvP rfl) ?_
  refine OPS.call (d := some 4) rfl rfl rfl (EvC.func (fun_run rfl)) (since n gR gM es w0 h hl) ?_
  rintro _ w ⟨A, c, Lo, rfl, hO, Hc⟩
  refine ⟨_, rfl, ?_⟩
  clear H
  refine OPS.val rfl rfl rfl (Ev.asS rfl) ?_
  refine OPS.nil ?_
  refine WP.ret ⟨_, rfl, ?_⟩
  exact ⟨A, c, Lo, rfl, hO, Hc⟩
end Go.Proofs.Ytchjbjplddhknaa

/-
  Plain: stays that follow one another contain each moment once.
-/
set_option linter.all false
namespace Go.Proofs.Ytchjbjplddhknaa
open Go Go.W Go.RowKit

/-- the stays l follow one another from a to b -/
def Cov : Int → List Sty → Int → Prop
  | a, [], b => a = b
  | a, s :: l, b => s.fr = a ∧ s.fr < s.to ∧ Cov s.to l b
theorem Cov.le : ∀ {l : List Sty} {a b : Int}, Cov a l b → a ≤ b
  | [], _, _, h => Int.le_of_eq h
  | s :: l, a, b, ⟨h1, h2, h3⟩ => by have := Cov.le h3; omega
theorem Cov.snoc : ∀ {l : List Sty} {a b : Int} {s : Sty}, Cov a l b → s.fr = b → s.fr < s.to → Cov a (l ++ [s]) s.to
  | [], _, _, _, h, h1, h2 => ⟨h1.trans (Eq.symm h), h2, rfl⟩
  | x :: l, _, _, _, ⟨h1, h2, h3⟩, h4, h5 => ⟨h1, h2, h3.snoc h4 h5⟩
theorem Cov.last : ∀ {l : List Sty} {a b : Int} {s : Sty}, Cov a (l ++ [s]) b → Cov a l s.fr ∧ s.fr < s.to ∧ s.to = b
  | [], _, _, _, ⟨h1, h2, h3⟩ => ⟨h1.symm, h2, h3⟩
  | x :: l, _, _, _, ⟨h1, h2, h3⟩ => by
    obtain ⟨h4, h5, h6⟩ := Cov.last h3
    exact ⟨⟨h1, h2, h4⟩, h5, h6⟩
/-- how many of the stays contain t -/
def cntT (t : Int) (l : List Sty) : Nat := l.countP fun s => decide (s.fr ≤ t) && decide (t < s.to)
theorem Cov.count : ∀ {l : List Sty} {a b t : Int}, Cov a l b → t < b → (t < a → cntT t l = 0) ∧ (a ≤ t → cntT t l = 1)
  | [], a, b, t, h, hb => ⟨fun _ => rfl, fun h1 => by have h : a = b := h; omega⟩
  | s :: l, a, b, t, ⟨h1, h2, h3⟩, hb => by
    have ih := Cov.count h3 hb
    have hc : cntT t (s :: l) = cntT t l + (if (decide (s.fr ≤ t) && decide (t < s.to)) = true then 1 else 0) := by
      unfold cntT; rw [List.countP_cons]
    rw [hc]
    refine ⟨fun h => ?_, fun h => ?_⟩
    · rw [ih.1 (by omega), if_neg (by simp; omega)]
    · by_cases h4 : t < s.to
      · rw [ih.1 h4, if_pos (by simp; omega)]
      · rw [ih.2 (by omega), if_neg (by simp; omega)]
end Go.Proofs.Ytchjbjplddhknaa

/-
  Plain: how the stays of a bicycle are gathered.
-/
set_option linter.all false
namespace Go.Proofs.Ytchjbjplddhknaa
open Go Go.W Go.RowKit

def likeS (l n : Sty) : Bool := (decide (l.wh = n.wh) && decide (l.pl = n.pl)) && decide (l.ri = n.ri)
/-- end(a): the stays behind the end of now at a -/
def endO (now : Sty) (out : List Sty) (a : Int) : List Sty :=
  if now.fr = a then out
  else match out.getLast? with
    | some l => if likeS l now = true then out.dropLast ++ [{ l with to := a }] else out ++ [{ now with to := a }]
    | none => out ++ [{ now with to := a }]
theorem endO_cov {now : Sty} {out : List Sty} {a : Int} (h : Cov 0 out now.fr) (ha : now.fr ≤ a) : Cov 0 (endO now out a) a := by
  unfold endO
  split
  · rename_i he; rw [← he]; exact h
  · rename_i hne
    have hlt : now.fr < a := by omega
    split
    · rename_i l hl
      split
      · obtain ⟨o, rfl⟩ := List.getLast?_eq_some_iff.1 hl
        obtain ⟨h1, h2, h3⟩ := h.last
        rw [List.dropLast_concat]
        exact h1.snoc (s := { l with to := a }) rfl (by show l.fr < a; omega)
      · exact h.snoc (s := { now with to := a }) rfl hlt
    · exact h.snoc (s := { now with to := a }) rfl hlt
end Go.Proofs.Ytchjbjplddhknaa

/-
  Walks: the closure of Stays that ends a stay.
-/
set_option linter.all false
namespace Go.Proofs.Ytchjbjplddhknaa
open Go Go.W Go.RowKit

theorem stC_len (s : Sty) : (stC s).length = 6 := rfl
theorem stOne (s : Sty) : ((stC s).all (·.oneCell')) = true := rfl
theorem set_to : ∀ (l : List Sty) (j : Nat) (hj : j < l.length) (v : Int), putL (l.flatMap stC) (j * 6 + 5) [I v] = (l.set j { l[j] with to := v }).flatMap stC
  | [], j, hj, _ => by simp at hj
  | x :: l, 0, _, v => rfl
  | x :: l, j + 1, hj, v => by
    have ih := set_to l j (by simpa using hj) v
    rw [List.flatMap_cons, show (j + 1) * 6 + 5 = (stC x).length + (j * 6 + 5) by rw [stC_len]; omega, putL_append_right, ih]
    rfl
theorem endO_same {now : Sty} {out : List Sty} {a : Int} (h : now.fr = a) : endO now out a = out := if_pos h
theorem endO_nil {now : Sty} {a : Int} (h : now.fr ≠ a) : endO now [] a = [{ now with to := a }] := by simp [endO, h]
theorem endO_like {now s : Sty} {o : List Sty} {a : Int} (h : now.fr ≠ a) (hl : likeS s now = true) : endO now (o ++ [s]) a = o ++ [{ s with to := a }] := by simp [endO, h, hl]
theorem endO_new {now s : Sty} {o : List Sty} {a : Int} (h : now.fr ≠ a) (hl : likeS s now = false) : endO now (o ++ [s]) a = (o ++ [s]) ++ [{ now with to := a }] := by simp [endO, h, hl]
/-- what the closures of Stays hold: now, and the stays so far -/
def LVs (gN gO : Nat) (now : Sty) (A : Option Addr) (n c : Nat) (Lo : List Blk) : List Blk := ⟨gN, 48, stC now⟩ :: ⟨gO, 37, [.slice A n c]⟩ :: Lo
theorem endS0 (a : Int) (gN gO : Nat) (now : Sty) (A : Option Addr) (c : Nat) (Lo : List Blk) (S : List Nat) (w0 : World) (hO : OwnS A c 0 [] 48 6 Lo) (H : SH w0 S w0 (LVs gN gO now A 0 c Lo)) :
    Calls Try.prog 17 #[I a, .pointer (some ⟨gN, 0, none⟩), .pointer (some ⟨gO, 0, none⟩)] w0 fun e w' => ∃ A' c' Lo', e = .returned (.tuple #[]) ∧ OwnS A' c' (endO now [] a).length ((endO now [] a).flatMap stC) 48 6 Lo' ∧
      SH w0 S w' (LVs gN gO { now with to := a } A' (endO now [] a).length c' Lo') := by
  unfold LVs at H
  dsimp only [stC] at H
  refine Calls.ofWP Try.func17 rfl Try.results17 Try.ntmps17 rfl ?_
  refine WP.seq ?_
  refine WP.region ?_
  refine OPS.val rfl rfl rfl (Ev.mvI rfl) ?_
  refine OPS.val rfl rfl rfl (Ev.fieldAddr (fld_run rfl) rfl) ?_
  refine OPS.val rfl rfl rfl (Ev.fieldAddr (fld_run rfl) rfl) ?_
  first | refine OPS.store 0 _ rfl rfl rfl (size_run rfl) rfl (cI rfl) rfl rfl H rfl (by simp) ?_ | refine OPS.store 1 _ rfl rfl rfl (size_run rfl) rfl (cI rfl) rfl rfl H rfl (by simp) ?_ | refine OPS.store 2 _ rfl rfl rfl (size_run rfl) rfl (cI rfl) rfl rfl H rfl (by simp) ?_ | refine OPS.store 3 _ rfl rfl rfl (size_run rfl) rfl (cI rfl) rfl rfl H rfl (by simp) ?_ | refine OPS.store 4 _ rfl rfl rfl (size_run rfl) rfl (cI rfl) rfl rfl H rfl (by simp) ?_ | refine OPS.store 5 _ rfl rfl rfl (size_run rfl) rfl (cI rfl) rfl rfl H rfl (by simp) ?_ | refine OPS.store 6 _ rfl rfl rfl (size_run rfl) rfl (cI rfl) rfl rfl H rfl (by simp) ?_ | refine OPS.store 7 _ rfl rfl rfl (size_run rfl) rfl (cI rfl) rfl rfl H rfl (by simp) ?_ | refine OPS.store 8 _ rfl rfl rfl (size_run rfl) rfl (cI rfl) rfl rfl H rfl (by simp) ?_
  clear H; intro w H; try simp only [List.set_cons_zero, List.set_cons_succ, putL, Nat.zero_add] at H
  refine OPS.nil ?_
  refine WP.seq ?_
  refine WP.region ?_
  refine OPS.val rfl rfl rfl (Ev.load1 (agg_run rfl) rfl (by first | exact H.ldL 0 rfl _ rfl | exact H.ldL 1 rfl _ rfl | exact H.ldL 2 rfl _ rfl | exact H.ldL 3 rfl _ rfl | exact H.ldL 4 rfl _ rfl | exact H.ldL 5 rfl _ rfl | exact H.ldL 6 rfl _ rfl | exact H.ldL 7 rfl _ rfl | exact H.ld0 (by assumption) | assumption | exact H.ldS (by assumption) (by assumption))) ?_
  refine OPS.val rfl rfl rfl (Ev.len (el_run rfl) rfl) ?_
  refine OPS.val rfl rfl rfl (Ev.sub rfl rfl (by unfold fits; omega)) ?_
  refine OPS.val rfl rfl rfl (Ev.asI rfl) ?_
  refine OPS.nil ?_
  refine WP.block ?_
  refine WP.seq ?_
  refine WP.region ?_
  refine OPS.val rfl rfl rfl (Ev.fieldAddr (fld_run rfl) rfl) ?_
  refine OPS.val rfl rfl rfl (Ev.fieldAddr (fld_run rfl) rfl) ?_
  refine OPS.val rfl rfl rfl (Ev.load1 (agg_run rfl) rfl (by first | exact H.ldL 0 rfl _ rfl | exact H.ldL 1 rfl _ rfl | exact H.ldL 2 rfl _ rfl | exact H.ldL 3 rfl _ rfl | exact H.ldL 4 rfl _ rfl | exact H.ldL 5 rfl _ rfl | exact H.ldL 6 rfl _ rfl | exact H.ldL 7 rfl _ rfl | exact H.ld0 (by assumption) | assumption | exact H.ldS (by assumption) (by assumption))) ?_
  refine OPS.val rfl rfl rfl (Ev.mvI rfl) ?_
  refine OPS.val rfl rfl rfl (Ev.eql rfl rfl) ?_
  refine OPS.val rfl rfl rfl (Ev.asB rfl) ?_
  refine OPS.nil ?_
  refine WP.cond rfl (fun hc3 => ?_) (fun hc3 => ?_)
  · refine WP.skip ?_
    refine ⟨_, rfl, ?_⟩
    first
      | (
         have hf : now.fr = a := by simpa using hc3
         rw [endO_same hf]
         exact ⟨A, c, Lo, rfl, hO, H⟩)
      | (
         have hf : now.fr ≠ a := by simpa using hc3
         rw [endO_nil hf]
         exact ⟨A', c', Lo', rfl, hO, H.drop (List.sublist_cons_self _ _)⟩)
  refine WP.seq ?_
  refine WP.rstill mixed (by kernel_rfl) H ?_
  clear H; intro w hbw4 H
  refine OPS.val rfl rfl rfl (Ev.mvI rfl) ?_
  refine OPS.val rfl rfl rfl (Ev.geq rfl rfl) ?_
  refine OPS.val rfl rfl rfl (Ev.mvB rfl) ?_
  refine OPS.gval (v := undef) rfl rfl rfl rfl rfl (fun hg => absurd hg (by simp)) ?_
  refine OPS.gval (v := undef) rfl rfl rfl rfl rfl (fun hg => absurd hg (by simp)) ?_
  refine OPS.gval (v := undef) rfl rfl rfl rfl rfl (fun hg => absurd hg (by simp)) ?_
  refine OPS.gval (v := undef) rfl rfl rfl rfl rfl (fun hg => absurd hg (by simp)) ?_
  refine OPS.gval (v := undef) rfl rfl rfl rfl rfl (fun hg => absurd hg (by simp)) ?_
  refine OPS.gval rfl rfl rfl rfl rfl (fun hg => Ev.fieldAddr (fld_run rfl) (by first | rfl | exact gvE hg rfl)) ?_
  refine OPS.gval rfl rfl rfl rfl rfl (fun hg => Ev.load1 (agg_run rfl) (by first | rfl | exact gvE hg rfl) (by first | exact H.ldL 0 rfl _ rfl | exact H.ldL 1 rfl _ rfl | exact H.ldL 2 rfl _ rfl | exact H.ldL 3 rfl _ rfl | exact H.ldL 4 rfl _ rfl | exact H.ldL 5 rfl _ rfl | exact H.ldL 6 rfl _ rfl | exact H.ldL 7 rfl _ rfl | exact H.ld0 (by assumption) | assumption | exact H.ldS (by assumption) (by assumption))) ?_
  refine OPS.gval (v := .bool false) rfl rfl rfl rfl rfl (fun hg => absurd hg (by simp)) ?_
  refine OPS.val rfl rfl rfl ((by first | exact Ev.pickOr rfl rfl rfl | exact Ev.pickAnd rfl rfl rfl)) ?_
  refine OPS.val rfl rfl rfl (Ev.mvB rfl) ?_
  refine OPS.gval (v := undef) rfl rfl rfl rfl rfl (fun hg => absurd hg (by simp)) ?_
  refine OPS.gval (v := undef) rfl rfl rfl rfl rfl (fun hg => absurd hg (by simp)) ?_
  refine OPS.gval (v := undef) rfl rfl rfl rfl rfl (fun hg => absurd hg (by simp)) ?_
  refine OPS.gval (v := undef) rfl rfl rfl rfl rfl (fun hg => absurd hg (by simp)) ?_
  refine OPS.gval (v := undef) rfl rfl rfl rfl rfl (fun hg => absurd hg (by simp)) ?_
  refine OPS.gval rfl rfl rfl rfl rfl (fun hg => Ev.fieldAddr (fld_run rfl) (by first | rfl | exact gvE hg rfl)) ?_
  refine OPS.gval rfl rfl rfl rfl rfl (fun hg => Ev.load1 (agg_run rfl) (by first | rfl | exact gvE hg rfl) (by first | exact H.ldL 0 rfl _ rfl | exact H.ldL 1 rfl _ rfl | exact H.ldL 2 rfl _ rfl | exact H.ldL 3 rfl _ rfl | exact H.ldL 4 rfl _ rfl | exact H.ldL 5 rfl _ rfl | exact H.ldL 6 rfl _ rfl | exact H.ldL 7 rfl _ rfl | exact H.ld0 (by assumption) | assumption | exact H.ldS (by assumption) (by assumption))) ?_
  refine OPS.gval (v := .bool false) rfl rfl rfl rfl rfl (fun hg => absurd hg (by simp)) ?_
  refine OPS.val rfl rfl rfl ((by first | exact Ev.pickOr rfl rfl rfl | exact Ev.pickAnd rfl rfl rfl)) ?_
  refine OPS.val rfl rfl rfl (Ev.mvB rfl) ?_
  refine OPS.gval (v := undef) rfl rfl rfl rfl rfl (fun hg => absurd hg (by simp)) ?_
  refine OPS.gval (v := undef) rfl rfl rfl rfl rfl (fun hg => absurd hg (by simp)) ?_
  refine OPS.gval (v := undef) rfl rfl rfl rfl rfl (fun hg => absurd hg (by simp)) ?_
  refine OPS.gval (v := undef) rfl rfl rfl rfl rfl (fun hg => absurd hg (by simp)) ?_
  refine OPS.gval (v := undef) rfl rfl rfl rfl rfl (fun hg => absurd hg (by simp)) ?_
  refine OPS.gval rfl rfl rfl rfl rfl (fun hg => Ev.fieldAddr (fld_run rfl) (by first | rfl | exact gvE hg rfl)) ?_
  refine OPS.gval rfl rfl rfl rfl rfl (fun hg => Ev.load1 (agg_run rfl) (by first | rfl | exact gvE hg rfl) (by first | exact H.ldL 0 rfl _ rfl | exact H.ldL 1 rfl _ rfl | exact H.ldL 2 rfl _ rfl | exact H.ldL 3 rfl _ rfl | exact H.ldL 4 rfl _ rfl | exact H.ldL 5 rfl _ rfl | exact H.ldL 6 rfl _ rfl | exact H.ldL 7 rfl _ rfl | exact H.ld0 (by assumption) | assumption | exact H.ldS (by assumption) (by assumption))) ?_
  refine OPS.gval (v := .bool false) rfl rfl rfl rfl rfl (fun hg => absurd hg (by simp)) ?_
  refine OPS.val rfl rfl rfl ((by first | exact Ev.pickOr rfl rfl rfl | exact Ev.pickAnd rfl rfl rfl)) ?_
  refine OPS.val rfl rfl rfl (Ev.asB rfl) ?_
  refine OPS.nil_s ?_
  refine WP.cond rfl (fun hc4 => ?_) (fun hc4 => ?_)
  · exact absurd hc4 (by simp)
  refine WP.region ?_
  refine OPS.val rfl rfl rfl (Ev.load1 (agg_run rfl) rfl (by first | exact H.ldL 0 rfl _ rfl | exact H.ldL 1 rfl _ rfl | exact H.ldL 2 rfl _ rfl | exact H.ldL 3 rfl _ rfl | exact H.ldL 4 rfl _ rfl | exact H.ldL 5 rfl _ rfl | exact H.ldL 6 rfl _ rfl | exact H.ldL 7 rfl _ rfl | exact H.ld0 (by assumption) | assumption | exact H.ldS (by assumption) (by assumption))) ?_
  refine OPS.val rfl rfl rfl ((by first | exact Ev.loadO 0 H rfl (agg_run rfl) (size_run rfl) (by first | assumption | rfl) rfl | exact Ev.loadO 1 H rfl (agg_run rfl) (size_run rfl) (by first | assumption | rfl) rfl | exact Ev.loadO 2 H rfl (agg_run rfl) (size_run rfl) (by first | assumption | rfl) rfl | exact Ev.loadO 3 H rfl (agg_run rfl) (size_run rfl) (by first | assumption | rfl) rfl | exact Ev.loadO 4 H rfl (agg_run rfl) (size_run rfl) (by first | assumption | rfl) rfl | exact Ev.loadO 5 H rfl (agg_run rfl) (size_run rfl) (by first | assumption | rfl) rfl | exact Ev.loadO 6 H rfl (agg_run rfl) (size_run rfl) (by first | assumption | rfl) rfl | (change Ev _ _ _ _ (Op.load 48 (Operand.tmp 1)) _; fail))) ?_
  refine OPS.buildSlice rfl rfl rfl rfl (bsl_37_1_0 rfl) H ?_
  clear H; intro g13 w H
  refine OPS.append (m := 1) (news := stC { now with to := a }) (R := [⟨g13, 48, stC { now with to := a }⟩, ⟨gN, 48, stC { now with to := a }⟩, ⟨gO, 37, [.slice A 0 c]⟩]) rfl rfl rfl rfl rfl (sl_run rfl) rfl rfl hO rfl (src_own H 0 rfl) (stOne { now with to := a }) (by omega) (by unfold maxLen; omega) H (List.Perm.refl _) ?_
  clear H hO; intro A' c' Lo' w hO H
  replace H : SH w0 S w (⟨g13, 48, stC { now with to := a }⟩ :: ⟨gN, 48, stC { now with to := a }⟩ :: ⟨gO, 37, [.slice A 0 c]⟩ :: Lo') := H
  first | refine OPS.store 0 _ rfl rfl rfl (size_run rfl) rfl (cS rfl) rfl rfl H rfl (by simp) ?_ | refine OPS.store 1 _ rfl rfl rfl (size_run rfl) rfl (cS rfl) rfl rfl H rfl (by simp) ?_ | refine OPS.store 2 _ rfl rfl rfl (size_run rfl) rfl (cS rfl) rfl rfl H rfl (by simp) ?_ | refine OPS.store 3 _ rfl rfl rfl (size_run rfl) rfl (cS rfl) rfl rfl H rfl (by simp) ?_ | refine OPS.store 4 _ rfl rfl rfl (size_run rfl) rfl (cS rfl) rfl rfl H rfl (by simp) ?_ | refine OPS.store 5 _ rfl rfl rfl (size_run rfl) rfl (cS rfl) rfl rfl H rfl (by simp) ?_ | refine OPS.store 6 _ rfl rfl rfl (size_run rfl) rfl (cS rfl) rfl rfl H rfl (by simp) ?_ | refine OPS.store 7 _ rfl rfl rfl (size_run rfl) rfl (cS rfl) rfl rfl H rfl (by simp) ?_ | refine OPS.store 8 _ rfl rfl rfl (size_run rfl) rfl (cS rfl) rfl rfl H rfl (by simp) ?_
  clear H; intro w H; try simp only [List.set_cons_zero, List.set_cons_succ, putL, Nat.zero_add] at H
  refine OPS.nil ?_
  refine ⟨_, rfl, ?_⟩
  first
    | (
       have hf : now.fr = a := by simpa using hc3
       rw [endO_same hf]
       exact ⟨A, c, Lo, rfl, hO, H⟩)
    | (
       have hf : now.fr ≠ a := by simpa using hc3
       rw [endO_nil hf]
       exact ⟨A', c', Lo', rfl, hO, H.drop (List.sublist_cons_self _ _)⟩)
theorem rowSt {w0 w : World} {S : List Nat} {L : List Blk} {g : Nat} {T : TypeId} {o : List Sty} {s : Sty} {sp : List Value} (H : SH w0 S w L) (i : Nat) (hi : L[i]? = some ⟨g, T, (o ++ [s]).flatMap stC ++ sp⟩) : cellsAt w g (0 + o.length * 6) (stC s) := by
  obtain ⟨b, o', h1, h2⟩ := rowsOwn (enc := stC) (sz := 6) (l := o ++ [s]) (post := sp) (fun _ => rfl) H i hi o.length (by simp)
  cases h1
  rw [List.getElem_concat_length (h := rfl)] at h2
  exact h2
theorem endS1 (a : Int) (gN gO : Nat) (now : Sty) (g : Nat) (o : List Sty) (s : Sty) (sp : List Value) (c : Nat) (S : List Nat) (w0 : World) (hl : o.length ≤ 1000) (hO : OwnS (some ⟨g, 0, none⟩) c (o.length + 1) ((o ++ [s]).flatMap stC) 48 6 [⟨g, 48, (o ++ [s]).flatMap stC ++ sp⟩]) (H : SH w0 S w0 (LVs gN gO now (some ⟨g, 0, none⟩) (o.length + 1) c [⟨g, 48, (o ++ [s]).flatMap stC ++ sp⟩])) :
    Calls Try.prog 17 #[I a, .pointer (some ⟨gN, 0, none⟩), .pointer (some ⟨gO, 0, none⟩)] w0 fun e w' => ∃ A' c' Lo', e = .returned (.tuple #[]) ∧ OwnS A' c' (endO now (o ++ [s]) a).length ((endO now (o ++ [s]) a).flatMap stC) 48 6 Lo' ∧
      SH w0 S w' (LVs gN gO { now with to := a } A' (endO now (o ++ [s]) a).length c' Lo') := by
  unfold LVs at H
  have hrow : ∀ {w : World} {x y : Blk}, SH w0 S w [x, y, ⟨g, 48, (o ++ [s]).flatMap stC ++ sp⟩] → cellsAt w g (0 + o.length * 6) (stC s) := fun H => rowSt H 2 rfl
  have hfit : 0 + o.length * 6 + 4 + 1 + 1 ≤ ((o ++ [s]).flatMap stC ++ sp).length := by
    rw [List.length_append, rows_length (sz := 6) (fun _ => rfl), List.length_append]; simp; omega
  dsimp only [stC] at H
  refine Calls.ofWP Try.func17 rfl Try.results17 Try.ntmps17 rfl ?_
  refine WP.seq ?_
  refine WP.region ?_
  refine OPS.val rfl rfl rfl (Ev.mvI rfl) ?_
  refine OPS.val rfl rfl rfl (Ev.fieldAddr (fld_run rfl) rfl) ?_
  refine OPS.val rfl rfl rfl (Ev.fieldAddr (fld_run rfl) rfl) ?_
  first | refine OPS.store 0 _ rfl rfl rfl (size_run rfl) rfl (cI rfl) rfl rfl H rfl (by simp) ?_ | refine OPS.store 1 _ rfl rfl rfl (size_run rfl) rfl (cI rfl) rfl rfl H rfl (by simp) ?_ | refine OPS.store 2 _ rfl rfl rfl (size_run rfl) rfl (cI rfl) rfl rfl H rfl (by simp) ?_ | refine OPS.store 3 _ rfl rfl rfl (size_run rfl) rfl (cI rfl) rfl rfl H rfl (by simp) ?_ | refine OPS.store 4 _ rfl rfl rfl (size_run rfl) rfl (cI rfl) rfl rfl H rfl (by simp) ?_ | refine OPS.store 5 _ rfl rfl rfl (size_run rfl) rfl (cI rfl) rfl rfl H rfl (by simp) ?_ | refine OPS.store 6 _ rfl rfl rfl (size_run rfl) rfl (cI rfl) rfl rfl H rfl (by simp) ?_ | refine OPS.store 7 _ rfl rfl rfl (size_run rfl) rfl (cI rfl) rfl rfl H rfl (by simp) ?_ | refine OPS.store 8 _ rfl rfl rfl (size_run rfl) rfl (cI rfl) rfl rfl H rfl (by simp) ?_
  clear H; intro w H; try simp only [List.set_cons_zero, List.set_cons_succ, putL, Nat.zero_add] at H
  refine OPS.nil ?_
  refine WP.seq ?_
  refine WP.region ?_
  refine OPS.val rfl rfl rfl (Ev.load1 (agg_run rfl) rfl (by first | exact H.ldL 0 rfl _ rfl | exact H.ldL 1 rfl _ rfl | exact H.ldL 2 rfl _ rfl | exact H.ldL 3 rfl _ rfl | exact H.ldL 4 rfl _ rfl | exact H.ldL 5 rfl _ rfl | exact H.ldL 6 rfl _ rfl | exact H.ldL 7 rfl _ rfl | exact H.ld0 (by assumption) | assumption | exact H.ldS (by assumption) (by assumption))) ?_
  refine OPS.val rfl rfl rfl (Ev.len (el_run rfl) rfl) ?_
  refine OPS.val rfl rfl rfl (Ev.sub rfl rfl (by unfold fits; omega)) ?_
  refine OPS.val rfl rfl rfl (Ev.asI rfl) ?_
  refine OPS.nil ?_
  refine WP.block ?_
  refine WP.seq ?_
  refine WP.region ?_
  refine OPS.val rfl rfl rfl (Ev.fieldAddr (fld_run rfl) rfl) ?_
  refine OPS.val rfl rfl rfl (Ev.fieldAddr (fld_run rfl) rfl) ?_
  refine OPS.val rfl rfl rfl (Ev.load1 (agg_run rfl) rfl (by first | exact H.ldL 0 rfl _ rfl | exact H.ldL 1 rfl _ rfl | exact H.ldL 2 rfl _ rfl | exact H.ldL 3 rfl _ rfl | exact H.ldL 4 rfl _ rfl | exact H.ldL 5 rfl _ rfl | exact H.ldL 6 rfl _ rfl | exact H.ldL 7 rfl _ rfl | exact H.ld0 (by assumption) | assumption | exact H.ldS (by assumption) (by assumption))) ?_
  refine OPS.val rfl rfl rfl (Ev.mvI rfl) ?_
  refine OPS.val rfl rfl rfl (Ev.eql rfl rfl) ?_
  refine OPS.val rfl rfl rfl (Ev.asB rfl) ?_
  refine OPS.nil ?_
  refine WP.cond rfl (fun hc3 => ?_) (fun hc3 => ?_)
  · refine WP.skip ?_
    refine ⟨_, rfl, ?_⟩
    first
      | (
         have hf : now.fr = a := by simpa using hc3
         rw [endO_same hf]
         exact ⟨_, _, _, rfl, by rw [List.length_append]; exact hO, by rw [List.length_append]; exact H⟩)
      | (
         have hf : now.fr ≠ a := by simpa using hc3
         have hk : likeS s now = true := by
           have h0 : decide ((0 : Int) ≤ ((o.length + 1 : Nat) : Int) - 1) = true := decide_eq_true (by omega)
           have h1 := hc4
           rw [h0, Bool.true_and] at h1
           exact h1
         rw [endO_like hf hk]
         refine ⟨_, _, _, rfl, ⟨?_, ?_⟩, by rw [List.length_append]; exact H⟩
         · rw [rows_length (sz := 6) (fun _ => rfl)]
         · rcases hO.form with ⟨h1, _⟩ | ⟨g', sp', h1, h2, h3, h4, h5⟩
           · cases h1
           · cases h1
             have h6 : sp' = sp := by
               have := congrArg (fun l : List Blk => (l.map (·.cs)).flatten) h2
               simpa using this.symm
             subst h6
             have hl2 : ((o ++ [{ s with to := a }]).flatMap stC).length = ((o ++ [s]).flatMap stC).length := by
               rw [rows_length (sz := 6) (fun _ => rfl), rows_length (sz := 6) (fun _ => rfl)]; simp
             exact .inr ⟨g, sp', rfl, rfl, by simpa using h3, h4, by rw [List.length_append, hl2, ← List.length_append]; exact h5⟩)
      | (
         have hf : now.fr ≠ a := by simpa using hc3
         have hk : likeS s now = false := by
           have h0 : decide ((0 : Int) ≤ ((o.length + 1 : Nat) : Int) - 1) = true := decide_eq_true (by omega)
           have h1 := hc4
           rw [h0, Bool.true_and] at h1
           exact h1
         rw [endO_new hf hk]
         exact ⟨A', c', Lo', rfl, by rw [List.flatMap_append]; simpa using hO, by
           have := H.drop (List.sublist_cons_self _ _)
           have hle : ((o ++ [s]) ++ [{ now with to := a }]).length = o.length + 1 + 1 := by simp
           rw [hle]
           exact this⟩)
  refine WP.seq ?_
  refine WP.rstill mixed (by kernel_rfl) H ?_
  clear H; intro w hbw4 H
  have hx := hrow H
  refine OPS.val rfl rfl rfl (Ev.mvI rfl) ?_
  refine OPS.val rfl rfl rfl (Ev.geq rfl rfl) ?_
  refine OPS.val rfl rfl rfl (Ev.mvB rfl) ?_
  refine OPS.gval rfl rfl rfl rfl rfl (fun hg => Ev.load1 (agg_run rfl) (by first | rfl | exact gvE hg rfl) (by first | exact H.ldL 0 rfl _ rfl | exact H.ldL 1 rfl _ rfl | exact H.ldL 2 rfl _ rfl | exact H.ldL 3 rfl _ rfl | exact H.ldL 4 rfl _ rfl | exact H.ldL 5 rfl _ rfl | exact H.ldL 6 rfl _ rfl | exact H.ldL 7 rfl _ rfl | exact H.ld0 (by assumption) | assumption | exact H.ldS (by assumption) (by assumption))) ?_
  refine OPS.gval rfl rfl rfl rfl rfl (fun hg => Ev.mvI (by first | rfl | exact gvE hg rfl)) ?_
  refine OPS.gval rfl rfl rfl rfl rfl (fun hg => Ev.indexAddr (j := o.length) (el_run rfl) (size_run rfl) (gvE hg rfl) (gvE hg rfl) (by omega) (by omega)) ?_
  refine OPS.gval rfl rfl rfl rfl rfl (fun hg => Ev.fieldAddr (fld_run rfl) (by first | rfl | exact gvE hg rfl)) ?_
  refine OPS.gval rfl rfl rfl rfl rfl (fun hg => Ev.load1 (agg_run rfl) (gvE hg rfl) hx.2.1) ?_
  refine OPS.gval rfl rfl rfl rfl rfl (fun hg => Ev.fieldAddr (fld_run rfl) (by first | rfl | exact gvE hg rfl)) ?_
  refine OPS.gval rfl rfl rfl rfl rfl (fun hg => Ev.load1 (agg_run rfl) (by first | rfl | exact gvE hg rfl) (by first | exact H.ldL 0 rfl _ rfl | exact H.ldL 1 rfl _ rfl | exact H.ldL 2 rfl _ rfl | exact H.ldL 3 rfl _ rfl | exact H.ldL 4 rfl _ rfl | exact H.ldL 5 rfl _ rfl | exact H.ldL 6 rfl _ rfl | exact H.ldL 7 rfl _ rfl | exact H.ld0 (by assumption) | assumption | exact H.ldS (by assumption) (by assumption))) ?_
  refine OPS.gval rfl rfl rfl rfl rfl (fun hg => Ev.eql (by first | rfl | exact gvE hg rfl) (by first | rfl | exact gvE hg rfl)) ?_
  refine OPS.val rfl rfl rfl ((by first | exact Ev.pickOr rfl rfl rfl | exact Ev.pickAnd rfl rfl rfl)) ?_
  refine OPS.val rfl rfl rfl (Ev.mvB rfl) ?_
  refine OPS.gval rfl rfl rfl rfl rfl (fun hg => Ev.load1 (agg_run rfl) (by first | rfl | exact gvE hg rfl) (by first | exact H.ldL 0 rfl _ rfl | exact H.ldL 1 rfl _ rfl | exact H.ldL 2 rfl _ rfl | exact H.ldL 3 rfl _ rfl | exact H.ldL 4 rfl _ rfl | exact H.ldL 5 rfl _ rfl | exact H.ldL 6 rfl _ rfl | exact H.ldL 7 rfl _ rfl | exact H.ld0 (by assumption) | assumption | exact H.ldS (by assumption) (by assumption))) ?_
  refine OPS.gval rfl rfl rfl rfl rfl (fun hg => Ev.mvI (by first | rfl | exact gvE hg rfl)) ?_
  refine OPS.gval rfl rfl rfl rfl rfl (fun hg => Ev.indexAddr (j := o.length) (el_run rfl) (size_run rfl) (gvE hg rfl) (gvE hg rfl) (by omega) (by omega)) ?_
  refine OPS.gval rfl rfl rfl rfl rfl (fun hg => Ev.fieldAddr (fld_run rfl) (by first | rfl | exact gvE hg rfl)) ?_
  refine OPS.gval rfl rfl rfl rfl rfl (fun hg => Ev.load1 (agg_run rfl) (gvE hg rfl) hx.2.2.1) ?_
  refine OPS.gval rfl rfl rfl rfl rfl (fun hg => Ev.fieldAddr (fld_run rfl) (by first | rfl | exact gvE hg rfl)) ?_
  refine OPS.gval rfl rfl rfl rfl rfl (fun hg => Ev.load1 (agg_run rfl) (by first | rfl | exact gvE hg rfl) (by first | exact H.ldL 0 rfl _ rfl | exact H.ldL 1 rfl _ rfl | exact H.ldL 2 rfl _ rfl | exact H.ldL 3 rfl _ rfl | exact H.ldL 4 rfl _ rfl | exact H.ldL 5 rfl _ rfl | exact H.ldL 6 rfl _ rfl | exact H.ldL 7 rfl _ rfl | exact H.ld0 (by assumption) | assumption | exact H.ldS (by assumption) (by assumption))) ?_
  refine OPS.gval rfl rfl rfl rfl rfl (fun hg => Ev.eql (by first | rfl | exact gvE hg rfl) (by first | rfl | exact gvE hg rfl)) ?_
  refine OPS.val rfl rfl rfl ((by first | exact Ev.pickOr rfl rfl rfl | exact Ev.pickAnd rfl rfl rfl)) ?_
  refine OPS.val rfl rfl rfl (Ev.mvB rfl) ?_
  refine OPS.gval rfl rfl rfl rfl rfl (fun hg => Ev.load1 (agg_run rfl) (by first | rfl | exact gvE hg rfl) (by first | exact H.ldL 0 rfl _ rfl | exact H.ldL 1 rfl _ rfl | exact H.ldL 2 rfl _ rfl | exact H.ldL 3 rfl _ rfl | exact H.ldL 4 rfl _ rfl | exact H.ldL 5 rfl _ rfl | exact H.ldL 6 rfl _ rfl | exact H.ldL 7 rfl _ rfl | exact H.ld0 (by assumption) | assumption | exact H.ldS (by assumption) (by assumption))) ?_
  refine OPS.gval rfl rfl rfl rfl rfl (fun hg => Ev.mvI (by first | rfl | exact gvE hg rfl)) ?_
  refine OPS.gval rfl rfl rfl rfl rfl (fun hg => Ev.indexAddr (j := o.length) (el_run rfl) (size_run rfl) (gvE hg rfl) (gvE hg rfl) (by omega) (by omega)) ?_
  refine OPS.gval rfl rfl rfl rfl rfl (fun hg => Ev.fieldAddr (fld_run rfl) (by first | rfl | exact gvE hg rfl)) ?_
  refine OPS.gval rfl rfl rfl rfl rfl (fun hg => Ev.load1 (agg_run rfl) (gvE hg rfl) hx.2.2.2.1) ?_
  refine OPS.gval rfl rfl rfl rfl rfl (fun hg => Ev.fieldAddr (fld_run rfl) (by first | rfl | exact gvE hg rfl)) ?_
  refine OPS.gval rfl rfl rfl rfl rfl (fun hg => Ev.load1 (agg_run rfl) (by first | rfl | exact gvE hg rfl) (by first | exact H.ldL 0 rfl _ rfl | exact H.ldL 1 rfl _ rfl | exact H.ldL 2 rfl _ rfl | exact H.ldL 3 rfl _ rfl | exact H.ldL 4 rfl _ rfl | exact H.ldL 5 rfl _ rfl | exact H.ldL 6 rfl _ rfl | exact H.ldL 7 rfl _ rfl | exact H.ld0 (by assumption) | assumption | exact H.ldS (by assumption) (by assumption))) ?_
  refine OPS.gval rfl rfl rfl rfl rfl (fun hg => Ev.eql (by first | rfl | exact gvE hg rfl) (by first | rfl | exact gvE hg rfl)) ?_
  refine OPS.val rfl rfl rfl ((by first | exact Ev.pickOr rfl rfl rfl | exact Ev.pickAnd rfl rfl rfl)) ?_
  refine OPS.val rfl rfl rfl (Ev.asB rfl) ?_
  refine OPS.nil_s ?_
  refine WP.cond rfl (fun hc4 => ?_) (fun hc4 => ?_)
  · refine WP.region ?_
    refine OPS.val rfl rfl rfl (Ev.load1 (agg_run rfl) rfl (by first | exact H.ldL 0 rfl _ rfl | exact H.ldL 1 rfl _ rfl | exact H.ldL 2 rfl _ rfl | exact H.ldL 3 rfl _ rfl | exact H.ldL 4 rfl _ rfl | exact H.ldL 5 rfl _ rfl | exact H.ldL 6 rfl _ rfl | exact H.ldL 7 rfl _ rfl | exact H.ld0 (by assumption) | assumption | exact H.ldS (by assumption) (by assumption))) ?_
    refine OPS.val rfl rfl rfl (Ev.mvI rfl) ?_
    refine OPS.val rfl rfl rfl (Ev.mvI rfl) ?_
    refine OPS.val rfl rfl rfl (Ev.indexAddr (j := o.length) (el_run rfl) (size_run rfl) rfl rfl (by omega) (by omega)) ?_
    refine OPS.val rfl rfl rfl (Ev.fieldAddr (fld_run rfl) rfl) ?_
    refine OPS.val rfl rfl rfl (Ev.fieldAddr (fld_run rfl) rfl) ?_
    refine OPS.store 2 (0 + o.length * 6 + 4 + 1) rfl rfl rfl (size_run rfl) rfl (cI rfl) rfl rfl H rfl hfit ?_
    clear H; intro w H
    have H : SH w0 S w [⟨gN, 48, stC { now with to := a }⟩, ⟨gO, 37, [.slice (some ⟨g, 0, none⟩) (o.length + 1) c]⟩, ⟨g, 48, putL ((o ++ [s]).flatMap stC ++ sp) (0 + o.length * 6 + 4 + 1) [I a]⟩] := H
    have he : putL ((o ++ [s]).flatMap stC ++ sp) (0 + o.length * 6 + 4 + 1) [I a] = (o ++ [{ s with to := a }]).flatMap stC ++ sp := by
      have hlo : (o.flatMap stC).length = o.length * 6 := rows_length (sz := 6) (fun _ => rfl) _
      rw [List.flatMap_append, List.append_assoc, show 0 + o.length * 6 + 4 + 1 = (o.flatMap stC).length + 5 by omega, putL_append_right, List.flatMap_append, List.append_assoc]
      rfl
    rw [he] at H
    refine OPS.nil ?_
    refine ⟨_, rfl, ?_⟩
    first
      | (
         have hf : now.fr = a := by simpa using hc3
         rw [endO_same hf]
         exact ⟨_, _, _, rfl, by rw [List.length_append]; exact hO, by rw [List.length_append]; exact H⟩)
      | (
         have hf : now.fr ≠ a := by simpa using hc3
         have hk : likeS s now = true := by
           have h0 : decide ((0 : Int) ≤ ((o.length + 1 : Nat) : Int) - 1) = true := decide_eq_true (by omega)
           have h1 := hc4
           rw [h0, Bool.true_and] at h1
           exact h1
         rw [endO_like hf hk]
         refine ⟨_, _, _, rfl, ⟨?_, ?_⟩, by rw [List.length_append]; exact H⟩
         · rw [rows_length (sz := 6) (fun _ => rfl)]
         · rcases hO.form with ⟨h1, _⟩ | ⟨g', sp', h1, h2, h3, h4, h5⟩
           · cases h1
           · cases h1
             have h6 : sp' = sp := by
               have := congrArg (fun l : List Blk => (l.map (·.cs)).flatten) h2
               simpa using this.symm
             subst h6
             have hl2 : ((o ++ [{ s with to := a }]).flatMap stC).length = ((o ++ [s]).flatMap stC).length := by
               rw [rows_length (sz := 6) (fun _ => rfl), rows_length (sz := 6) (fun _ => rfl)]; simp
             exact .inr ⟨g, sp', rfl, rfl, by simpa using h3, h4, by rw [List.length_append, hl2, ← List.length_append]; exact h5⟩)
      | (
         have hf : now.fr ≠ a := by simpa using hc3
         have hk : likeS s now = false := by
           have h0 : decide ((0 : Int) ≤ ((o.length + 1 : Nat) : Int) - 1) = true := decide_eq_true (by omega)
           have h1 := hc4
           rw [h0, Bool.true_and] at h1
           exact h1
         rw [endO_new hf hk]
         exact ⟨A', c', Lo', rfl, by rw [List.flatMap_append]; simpa using hO, by
           have := H.drop (List.sublist_cons_self _ _)
           have hle : ((o ++ [s]) ++ [{ now with to := a }]).length = o.length + 1 + 1 := by simp
           rw [hle]
           exact this⟩)
  refine WP.region ?_
  refine OPS.val rfl rfl rfl (Ev.load1 (agg_run rfl) rfl (by first | exact H.ldL 0 rfl _ rfl | exact H.ldL 1 rfl _ rfl | exact H.ldL 2 rfl _ rfl | exact H.ldL 3 rfl _ rfl | exact H.ldL 4 rfl _ rfl | exact H.ldL 5 rfl _ rfl | exact H.ldL 6 rfl _ rfl | exact H.ldL 7 rfl _ rfl | exact H.ld0 (by assumption) | assumption | exact H.ldS (by assumption) (by assumption))) ?_
  refine OPS.val rfl rfl rfl ((by first | exact Ev.loadO 0 H rfl (agg_run rfl) (size_run rfl) (by first | assumption | rfl) rfl | exact Ev.loadO 1 H rfl (agg_run rfl) (size_run rfl) (by first | assumption | rfl) rfl | exact Ev.loadO 2 H rfl (agg_run rfl) (size_run rfl) (by first | assumption | rfl) rfl | exact Ev.loadO 3 H rfl (agg_run rfl) (size_run rfl) (by first | assumption | rfl) rfl | exact Ev.loadO 4 H rfl (agg_run rfl) (size_run rfl) (by first | assumption | rfl) rfl | exact Ev.loadO 5 H rfl (agg_run rfl) (size_run rfl) (by first | assumption | rfl) rfl | exact Ev.loadO 6 H rfl (agg_run rfl) (size_run rfl) (by first | assumption | rfl) rfl | (change Ev _ _ _ _ (Op.load 48 (Operand.tmp 1)) _; fail))) ?_
  refine OPS.buildSlice rfl rfl rfl rfl (bsl_37_1_0 rfl) H ?_
  clear H; intro g13 w H
  refine OPS.append (m := 1) (news := stC { now with to := a }) (R := [⟨g13, 48, stC { now with to := a }⟩, ⟨gN, 48, stC { now with to := a }⟩, ⟨gO, 37, [.slice (some ⟨g, 0, none⟩) (o.length + 1) c]⟩]) rfl rfl rfl rfl rfl (sl_run rfl) rfl rfl hO rfl (src_own H 0 rfl) (stOne { now with to := a }) (by omega) (by unfold maxLen; omega) H (List.Perm.refl _) ?_
  clear H hO; intro A' c' Lo' w hO H
  replace H : SH w0 S w (⟨g13, 48, stC { now with to := a }⟩ :: ⟨gN, 48, stC { now with to := a }⟩ :: ⟨gO, 37, [.slice (some ⟨g, 0, none⟩) (o.length + 1) c]⟩ :: Lo') := H
  first | refine OPS.store 0 _ rfl rfl rfl (size_run rfl) rfl (cS rfl) rfl rfl H rfl (by simp) ?_ | refine OPS.store 1 _ rfl rfl rfl (size_run rfl) rfl (cS rfl) rfl rfl H rfl (by simp) ?_ | refine OPS.store 2 _ rfl rfl rfl (size_run rfl) rfl (cS rfl) rfl rfl H rfl (by simp) ?_ | refine OPS.store 3 _ rfl rfl rfl (size_run rfl) rfl (cS rfl) rfl rfl H rfl (by simp) ?_ | refine OPS.store 4 _ rfl rfl rfl (size_run rfl) rfl (cS rfl) rfl rfl H rfl (by simp) ?_ | refine OPS.store 5 _ rfl rfl rfl (size_run rfl) rfl (cS rfl) rfl rfl H rfl (by simp) ?_ | refine OPS.store 6 _ rfl rfl rfl (size_run rfl) rfl (cS rfl) rfl rfl H rfl (by simp) ?_ | refine OPS.store 7 _ rfl rfl rfl (size_run rfl) rfl (cS rfl) rfl rfl H rfl (by simp) ?_ | refine OPS.store 8 _ rfl rfl rfl (size_run rfl) rfl (cS rfl) rfl rfl H rfl (by simp) ?_
  clear H; intro w H; try simp only [List.set_cons_zero, List.set_cons_succ, putL, Nat.zero_add] at H
  refine OPS.nil ?_
  refine ⟨_, rfl, ?_⟩
  first
    | (
       have hf : now.fr = a := by simpa using hc3
       rw [endO_same hf]
       exact ⟨_, _, _, rfl, by rw [List.length_append]; exact hO, by rw [List.length_append]; exact H⟩)
    | (
       have hf : now.fr ≠ a := by simpa using hc3
       have hk : likeS s now = true := by
         have h0 : decide ((0 : Int) ≤ ((o.length + 1 : Nat) : Int) - 1) = true := decide_eq_true (by omega)
         have h1 := hc4
         rw [h0, Bool.true_and] at h1
         exact h1
       rw [endO_like hf hk]
       refine ⟨_, _, _, rfl, ⟨?_, ?_⟩, by rw [List.length_append]; exact H⟩
       · rw [rows_length (sz := 6) (fun _ => rfl)]
       · rcases hO.form with ⟨h1, _⟩ | ⟨g', sp', h1, h2, h3, h4, h5⟩
         · cases h1
         · cases h1
           have h6 : sp' = sp := by
             have := congrArg (fun l : List Blk => (l.map (·.cs)).flatten) h2
             simpa using this.symm
           subst h6
           have hl2 : ((o ++ [{ s with to := a }]).flatMap stC).length = ((o ++ [s]).flatMap stC).length := by
             rw [rows_length (sz := 6) (fun _ => rfl), rows_length (sz := 6) (fun _ => rfl)]; simp
           exact .inr ⟨g, sp', rfl, rfl, by simpa using h3, h4, by rw [List.length_append, hl2, ← List.length_append]; exact h5⟩)
    | (
       have hf : now.fr ≠ a := by simpa using hc3
       have hk : likeS s now = false := by
         have h0 : decide ((0 : Int) ≤ ((o.length + 1 : Nat) : Int) - 1) = true := decide_eq_true (by omega)
         have h1 := hc4
         rw [h0, Bool.true_and] at h1
         exact h1
       rw [endO_new hf hk]
       exact ⟨A', c', Lo', rfl, by rw [List.flatMap_append]; simpa using hO, by
         have := H.drop (List.sublist_cons_self _ _)
         have hle : ((o ++ [s]) ++ [{ now with to := a }]).length = o.length + 1 + 1 := by simp
         rw [hle]
         exact this⟩)
/-- end(a) -/
theorem endS (a : Int) (gN gO : Nat) (now : Sty) (out : List Sty) (A : Option Addr) (c : Nat) (Lo : List Blk) (S : List Nat) (w0 : World) (hl : out.length ≤ 1000) (hO : OwnS A c out.length (out.flatMap stC) 48 6 Lo) (H : SH w0 S w0 (LVs gN gO now A out.length c Lo)) :
    Calls Try.prog 17 #[I a, .pointer (some ⟨gN, 0, none⟩), .pointer (some ⟨gO, 0, none⟩)] w0 fun e w' => ∃ A' c' Lo', e = .returned (.tuple #[]) ∧ OwnS A' c' (endO now out a).length ((endO now out a).flatMap stC) 48 6 Lo' ∧
      SH w0 S w' (LVs gN gO { now with to := a } A' (endO now out a).length c' Lo') := by
  rcases List.eq_nil_or_concat out with rfl | ⟨o, s, rfl⟩
  · exact endS0 a gN gO now A c Lo S w0 hO H
  · rw [List.concat_eq_append] at *
    have hlen : (o ++ [s]).length = o.length + 1 := by simp
    rw [hlen] at hO H hl
    rcases hO.form with ⟨_, h0, _⟩ | ⟨g, sp, rfl, rfl, _⟩
    · omega
    · exact endS1 a gN gO now g o s sp c S w0 (by omega) hO H
end Go.Proofs.Ytchjbjplddhknaa

/-
  Walks: the closure of Stays that is called behind each event.
-/
set_option linter.all false
namespace Go.Proofs.Ytchjbjplddhknaa
open Go Go.W Go.RowKit

section
variable {w w' w0 : World} {l : Loc} {σ : Sta} {tg : Nat → Nat} {L : List Blk} {S : List Nat}
/-- none of these blocks is one of the state -/
def OffS (l : Loc) (σ : Sta) (tg : Nat → Nat) (S : List Nat) : Prop := ∀ g ∈ S, g ≠ l.gS ∧ ¬ StB l σ tg g
theorem Rep.offT (h : Rep w l σ tg) (H : SH w0 S w L) (hT : ∀ b ∈ L, b.T ≠ 70 ∧ b.T ≠ 42 ∧ b.T ≠ 104) : OffS l σ tg (L.map (·.g)) := by
  intro g hg
  obtain ⟨b, hb, rfl⟩ := List.mem_map.1 hg
  have ho := H.own b hb
  have ht := hT b hb
  have hcell : ∀ {cs : Array Value} {T : TypeId}, w.heap[b.g]? = some (.cells cs T (0, 0)) → b.T = T := fun h1 => by
    rw [ho] at h1; simp at h1; exact h1.2
  refine ⟨fun he => ht.1 (hcell (he ▸ h.st)), ?_⟩
  rintro (he | he | he | ⟨c, hc, hw, he⟩)
  · exact ht.2.1 (hcell (he ▸ h.sp))
  · obtain ⟨m, hM, _⟩ := h.op
    obtain ⟨_, _, h1, _⟩ := hM.ex
    rw [← he, ho] at h1; cases h1
  · obtain ⟨m, hM, _⟩ := h.us
    obtain ⟨_, _, h1, _⟩ := hM.ex
    rw [← he, ho] at h1; cases h1
  · exact ht.2.2 (hcell (he ▸ h.tr c hc hw))
theorem Rep.keep (h : Rep w0 l σ tg) (H : SH w0 S w L) (hS : OffS l σ tg S) (hf : FlAt w l.f l.A l.B) : Rep w l σ tg := by
  have hlow : ∀ {g o}, w0.heap[g]? = some o → g ∉ S → w.heap[g]? = some o := fun {g o} hg hn => (H.low g (Array.getElem?_eq_some_iff.1 hg).1 hn).trans hg
  have nS : l.gS ∉ S := fun hm => (hS _ hm).1 rfl
  have nP : l.gP ∉ S := fun hm => (hS _ hm).2 (.inl rfl)
  have nO : l.gO ∉ S := fun hm => (hS _ hm).2 (.inr (.inl rfl))
  have nU : l.gU ∉ S := fun hm => (hS _ hm).2 (.inr (.inr (.inl rfl)))
  refine ⟨hf, hlow h.st nS, hlow h.sp nP, ?_, ?_, fun b hb hw => hlow (h.tr b hb hw) (fun hm => (hS _ hm).2 (.inr (.inr (.inr ⟨b, hb, hw, rfl⟩)))), h.len, h.small, h.low, h.nOU, h.fr⟩
  · obtain ⟨m, hM, hm⟩ := h.op
    exact ⟨m, hM.sh H nO, hm⟩
  · obtain ⟨m, hM, hm⟩ := h.us
    exact ⟨m, hM.sh H nU, hm⟩
end
def difS (s : Spt) (n : Sty) : Bool := (!decide (s.wh = n.wh) || !decide (s.pl = n.pl)) || !decide (s.ri = n.ri)
def visS (b : Nat) (s : Spt) (x : Evt) (er : Int) (v : Sty × List Sty) : Sty × List Sty := if er = 0 ∧ difS s v.1 = true then (⟨b, s.wh, s.pl, s.ri, x.a, 0⟩, endO v.1 v.2 x.a) else v
def endF (gN gO : Nat) : Value := .func (.func 17) #[] #[.pointer (some ⟨gN, 0, none⟩), .pointer (some ⟨gO, 0, none⟩)]
def LW (gB gE gN gO : Nat) (b : Nat) (now : Sty) (A : Option Addr) (n c : Nat) (Lo : List Blk) : List Blk := ⟨gB, 3, [I b]⟩ :: ⟨gE, 63, [endF gN gO]⟩ :: LVs gN gO now A n c Lo
theorem LW_tag {gB gE gN gO b : Nat} {now : Sty} {A : Option Addr} {n c : Nat} {xs : List Value} {Lo : List Blk} (hO : OwnS A c n xs 48 6 Lo) : ∀ k ∈ LW gB gE gN gO b now A n c Lo, k.T ≠ 70 ∧ k.T ≠ 42 ∧ k.T ≠ 104 := by
  intro k hk
  unfold LW LVs at hk
  simp only [List.mem_cons] at hk
  rcases hk with rfl | rfl | rfl | rfl | hk
  · simp
  · simp
  · simp
  · simp
  · rcases hO.form with ⟨_, _, _, rfl⟩ | ⟨g, sp, _, rfl, _⟩
    · simp at hk
    · simp only [List.mem_singleton] at hk
      subst hk; simp
theorem visit (b : Nat) (x : Evt) (er : Int) (gB gE gN gO : Nat) (now : Sty) (out : List Sty) (A : Option Addr) (c : Nat) (Lo : List Blk) (l : Loc) (σ : Sta) (tg : Nat → Nat) (w0 : World) (h : Rep w0 l σ tg) (hb : b < σ.sp.length) (hl : out.length ≤ 1000)
    (hO : OwnS A c out.length (out.flatMap stC) 48 6 Lo) (S : List Nat) (hS : OffS l σ tg S) (H : SH w0 S w0 (LW gB gE gN gO b now A out.length c Lo)) :
    Calls Try.prog 19 #[.pointer (some ⟨l.gS, 0, none⟩), .agg (evC x).toArray, I er, .pointer (some ⟨gB, 0, none⟩), .pointer (some ⟨gN, 0, none⟩), .pointer (some ⟨gE, 0, none⟩)] w0 fun e w' => ∃ A' c' Lo', e = .returned (.tuple #[]) ∧
      OwnS A' c' (visS b σ.sp[b] x er (now, out)).2.length ((visS b σ.sp[b] x er (now, out)).2.flatMap stC) 48 6 Lo' ∧ SH w0 S w' (LW gB gE gN gO b (visS b σ.sp[b] x er (now, out)).1 A' (visS b σ.sp[b] x er (now, out)).2.length c' Lo') := by
  have hP := h.cell (k := 5) rfl
  have n1 : l.gS ∉ S := fun hm => (hS _ hm).1 rfl
  have n2 : l.gP ∉ S := fun hm => (hS _ hm).2 (.inl rfl)
  obtain ⟨bz, oz, hbo, hz⟩ := h.rows b hb
  cases hbo
  have hsm := h.small
  unfold LW LVs endF at H
  dsimp only [stC] at H
  obtain ⟨s, hs⟩ : ∃ s, s = σ.sp[b] := ⟨_, rfl⟩
  rw [← hs] at hz ⊢
  refine Calls.ofWP Try.func19 rfl Try.results19 Try.ntmps19 rfl ?_
  refine WP.seq ?_
  refine WP.region ?_
  refine OPS.box rfl rfl rfl rfl (cA rfl) H ?_
  clear H; intro g7 w H
  refine OPS.nil ?_
  refine WP.seq ?_
  refine WP.rheldC [9, 10, 11, 12, 13, 14, 15, 16] (fun u w' => ∃ g9, u 9 = .pointer (some ⟨g9, 0, none⟩) ∧ SH w0 S w' (⟨g9, 42, [I s.wh, I s.pl, I s.ri, .bool s.pa]⟩ :: ⟨g7, 56, [I x.d, I x.s, I x.a, I x.l, I x.k, I x.b, I x.p, I x.r, I x.i]⟩ :: ⟨gB, 3, [I b]⟩ :: ⟨gE, 63, [endF gN gO]⟩ :: ⟨gN, 48, [I now.b, I now.wh, I now.pl, I now.ri, I now.fr, I now.to]⟩ :: ⟨gO, 37, [.slice A out.length c]⟩ :: Lo)) mixed H ?_ ?_
  · clear H; intro w hbw1 H
    refine OPH.take 0 rfl rfl rfl rfl (by kernel_rfl) (by kernel_rfl) (by kernel_rfl) rfl (by first | exact H | exact H.drop (List.sublist_cons_self _ _) | exact H.drop ((List.sublist_cons_self _ _).trans (List.sublist_cons_self _ _)) | exact H.drop ((List.sublist_cons_self _ _).trans ((List.sublist_cons_self _ _).trans (List.sublist_cons_self _ _))) | exact H.drop ((List.sublist_cons_self _ _).trans ((List.sublist_cons_self _ _).trans ((List.sublist_cons_self _ _).trans (List.sublist_cons_self _ _)))) | exact H.drop ((List.sublist_cons_self _ _).trans ((List.sublist_cons_self _ _).trans ((List.sublist_cons_self _ _).trans ((List.sublist_cons_self _ _).trans (List.sublist_cons_self _ _)))))) (fun w H => Ev.mvP rfl) ?_
    refine OPH.take 1 rfl rfl rfl rfl (by kernel_rfl) (by kernel_rfl) (by kernel_rfl) rfl (by first | exact H | exact H.drop (List.sublist_cons_self _ _) | exact H.drop ((List.sublist_cons_self _ _).trans (List.sublist_cons_self _ _)) | exact H.drop ((List.sublist_cons_self _ _).trans ((List.sublist_cons_self _ _).trans (List.sublist_cons_self _ _))) | exact H.drop ((List.sublist_cons_self _ _).trans ((List.sublist_cons_self _ _).trans ((List.sublist_cons_self _ _).trans (List.sublist_cons_self _ _)))) | exact H.drop ((List.sublist_cons_self _ _).trans ((List.sublist_cons_self _ _).trans ((List.sublist_cons_self _ _).trans ((List.sublist_cons_self _ _).trans (List.sublist_cons_self _ _)))))) (fun w H => (by first | exact Ev.nilCheckP rfl | exact Ev.nilCheckF rfl)) ?_
    refine OPH.take 2 rfl rfl rfl rfl (by kernel_rfl) (by kernel_rfl) (by kernel_rfl) rfl (by first | exact H | exact H.drop (List.sublist_cons_self _ _) | exact H.drop ((List.sublist_cons_self _ _).trans (List.sublist_cons_self _ _)) | exact H.drop ((List.sublist_cons_self _ _).trans ((List.sublist_cons_self _ _).trans (List.sublist_cons_self _ _))) | exact H.drop ((List.sublist_cons_self _ _).trans ((List.sublist_cons_self _ _).trans ((List.sublist_cons_self _ _).trans (List.sublist_cons_self _ _)))) | exact H.drop ((List.sublist_cons_self _ _).trans ((List.sublist_cons_self _ _).trans ((List.sublist_cons_self _ _).trans ((List.sublist_cons_self _ _).trans (List.sublist_cons_self _ _)))))) (fun w H => Ev.fieldAddr (fld_run rfl) rfl) ?_
    refine OPH.take 3 rfl rfl rfl rfl (by kernel_rfl) (by kernel_rfl) (by kernel_rfl) rfl (by first | exact H | exact H.drop (List.sublist_cons_self _ _) | exact H.drop ((List.sublist_cons_self _ _).trans (List.sublist_cons_self _ _)) | exact H.drop ((List.sublist_cons_self _ _).trans ((List.sublist_cons_self _ _).trans (List.sublist_cons_self _ _))) | exact H.drop ((List.sublist_cons_self _ _).trans ((List.sublist_cons_self _ _).trans ((List.sublist_cons_self _ _).trans (List.sublist_cons_self _ _)))) | exact H.drop ((List.sublist_cons_self _ _).trans ((List.sublist_cons_self _ _).trans ((List.sublist_cons_self _ _).trans ((List.sublist_cons_self _ _).trans (List.sublist_cons_self _ _)))))) (fun w H => Ev.load1 (agg_run rfl) rfl (H.ldS hP n1)) ?_
    refine OPH.take 4 rfl rfl rfl rfl (by kernel_rfl) (by kernel_rfl) (by kernel_rfl) rfl (by first | exact H | exact H.drop (List.sublist_cons_self _ _) | exact H.drop ((List.sublist_cons_self _ _).trans (List.sublist_cons_self _ _)) | exact H.drop ((List.sublist_cons_self _ _).trans ((List.sublist_cons_self _ _).trans (List.sublist_cons_self _ _))) | exact H.drop ((List.sublist_cons_self _ _).trans ((List.sublist_cons_self _ _).trans ((List.sublist_cons_self _ _).trans (List.sublist_cons_self _ _)))) | exact H.drop ((List.sublist_cons_self _ _).trans ((List.sublist_cons_self _ _).trans ((List.sublist_cons_self _ _).trans ((List.sublist_cons_self _ _).trans (List.sublist_cons_self _ _)))))) (fun w H => Ev.load1 (agg_run rfl) rfl (by first | exact H.ldL 0 rfl _ rfl | exact H.ldL 1 rfl _ rfl | exact H.ldL 2 rfl _ rfl | exact H.ldL 3 rfl _ rfl | exact H.ldL 4 rfl _ rfl | exact H.ldL 5 rfl _ rfl | exact H.ldL 6 rfl _ rfl | exact H.ldL 7 rfl _ rfl | exact H.ld0 (by assumption) | assumption | exact H.ldS (by assumption) (by assumption))) ?_
    refine OPH.take 5 rfl rfl rfl rfl (by kernel_rfl) (by kernel_rfl) (by kernel_rfl) rfl (by first | exact H | exact H.drop (List.sublist_cons_self _ _) | exact H.drop ((List.sublist_cons_self _ _).trans (List.sublist_cons_self _ _)) | exact H.drop ((List.sublist_cons_self _ _).trans ((List.sublist_cons_self _ _).trans (List.sublist_cons_self _ _))) | exact H.drop ((List.sublist_cons_self _ _).trans ((List.sublist_cons_self _ _).trans ((List.sublist_cons_self _ _).trans (List.sublist_cons_self _ _)))) | exact H.drop ((List.sublist_cons_self _ _).trans ((List.sublist_cons_self _ _).trans ((List.sublist_cons_self _ _).trans ((List.sublist_cons_self _ _).trans (List.sublist_cons_self _ _)))))) (fun w H => Ev.indexAddr (j := b) (el_run rfl) (size_run rfl) rfl rfl rfl hb) ?_
    refine OPH.take 6 rfl rfl rfl rfl (by kernel_rfl) (by kernel_rfl) (by kernel_rfl) rfl (by first | exact H | exact H.drop (List.sublist_cons_self _ _) | exact H.drop ((List.sublist_cons_self _ _).trans (List.sublist_cons_self _ _)) | exact H.drop ((List.sublist_cons_self _ _).trans ((List.sublist_cons_self _ _).trans (List.sublist_cons_self _ _))) | exact H.drop ((List.sublist_cons_self _ _).trans ((List.sublist_cons_self _ _).trans ((List.sublist_cons_self _ _).trans (List.sublist_cons_self _ _)))) | exact H.drop ((List.sublist_cons_self _ _).trans ((List.sublist_cons_self _ _).trans ((List.sublist_cons_self _ _).trans ((List.sublist_cons_self _ _).trans (List.sublist_cons_self _ _)))))) (fun w H => Ev.loadN (spC s) (agg_run rfl) (size_run rfl) rfl (cellsAt_shS H n2 hz)) ?_
    refine OPH.all [7] (by kernel_rfl) (by simp) rfl ?_
    intro i hi; simp only [List.mem_cons, List.not_mem_nil, or_false] at hi
    rcases hi with rfl
    · refine ⟨_, rfl, ?_⟩
      refine OPS.alloc rfl rfl rfl rfl (zero_run rfl) rfl H ?_
      clear H; intro g9 w H
      refine OPS.nil ?_
      refine ⟨(by first | exact H | exact H.drop (List.sublist_cons_self _ _) | exact H.drop ((List.sublist_cons_self _ _).trans (List.sublist_cons_self _ _)) | exact H.drop ((List.sublist_cons_self _ _).trans ((List.sublist_cons_self _ _).trans (List.sublist_cons_self _ _))) | exact H.drop ((List.sublist_cons_self _ _).trans ((List.sublist_cons_self _ _).trans ((List.sublist_cons_self _ _).trans (List.sublist_cons_self _ _)))) | exact H.drop ((List.sublist_cons_self _ _).trans ((List.sublist_cons_self _ _).trans ((List.sublist_cons_self _ _).trans ((List.sublist_cons_self _ _).trans (List.sublist_cons_self _ _)))))), ?_⟩
      refine OPH.all [8] (by kernel_rfl) (by simp) rfl ?_
      intro i hi; simp only [List.mem_cons, List.not_mem_nil, or_false] at hi
      rcases hi with rfl
      · refine ⟨_, rfl, ?_⟩
        first | refine OPS.store 0 _ rfl rfl rfl (size_run rfl) rfl (cA rfl) rfl rfl H rfl (by simp) ?_ | refine OPS.store 1 _ rfl rfl rfl (size_run rfl) rfl (cA rfl) rfl rfl H rfl (by simp) ?_ | refine OPS.store 2 _ rfl rfl rfl (size_run rfl) rfl (cA rfl) rfl rfl H rfl (by simp) ?_ | refine OPS.store 3 _ rfl rfl rfl (size_run rfl) rfl (cA rfl) rfl rfl H rfl (by simp) ?_ | refine OPS.store 4 _ rfl rfl rfl (size_run rfl) rfl (cA rfl) rfl rfl H rfl (by simp) ?_ | refine OPS.store 5 _ rfl rfl rfl (size_run rfl) rfl (cA rfl) rfl rfl H rfl (by simp) ?_ | refine OPS.store 6 _ rfl rfl rfl (size_run rfl) rfl (cA rfl) rfl rfl H rfl (by simp) ?_ | refine OPS.store 7 _ rfl rfl rfl (size_run rfl) rfl (cA rfl) rfl rfl H rfl (by simp) ?_ | refine OPS.store 8 _ rfl rfl rfl (size_run rfl) rfl (cA rfl) rfl rfl H rfl (by simp) ?_
        clear H; intro w H; try simp only [List.set_cons_zero, List.set_cons_succ, putL, Nat.zero_add] at H
        refine OPS.nil ?_
        refine ⟨(by first | exact H | exact H.drop (List.sublist_cons_self _ _) | exact H.drop ((List.sublist_cons_self _ _).trans (List.sublist_cons_self _ _)) | exact H.drop ((List.sublist_cons_self _ _).trans ((List.sublist_cons_self _ _).trans (List.sublist_cons_self _ _))) | exact H.drop ((List.sublist_cons_self _ _).trans ((List.sublist_cons_self _ _).trans ((List.sublist_cons_self _ _).trans (List.sublist_cons_self _ _)))) | exact H.drop ((List.sublist_cons_self _ _).trans ((List.sublist_cons_self _ _).trans ((List.sublist_cons_self _ _).trans ((List.sublist_cons_self _ _).trans (List.sublist_cons_self _ _)))))), ?_⟩
        refine OPH.done (by kernel_rfl) ?_
        exact ⟨(by repeat (first | exact Agree.refl _ _ | exact Agree.mix _ _ _ | refine Agree.upd rfl ?_ | refine Agree.mix2 rfl ?_)), g9, rfl, H⟩
  clear H
  rintro u w ⟨g9, h9, H⟩
  refine WP.know (t := 9) h9 ?_
  refine WP.seq ?_
  refine WP.region ?_
  refine OPS.val rfl rfl rfl (Ev.mvI rfl) ?_
  refine OPS.val rfl rfl rfl (Ev.eql rfl rfl) ?_
  refine OPS.val rfl rfl rfl (Ev.mvB rfl) ?_
  refine OPS.gval rfl rfl rfl rfl rfl (fun hg => Ev.fieldAddr (fld_run rfl) (by first | rfl | exact gvE hg rfl)) ?_
  refine OPS.gval rfl rfl rfl rfl rfl (fun hg => Ev.load1 (agg_run rfl) (by first | rfl | exact gvE hg rfl) (by first | exact H.ldL 0 rfl _ rfl | exact H.ldL 1 rfl _ rfl | exact H.ldL 2 rfl _ rfl | exact H.ldL 3 rfl _ rfl | exact H.ldL 4 rfl _ rfl | exact H.ldL 5 rfl _ rfl | exact H.ldL 6 rfl _ rfl | exact H.ldL 7 rfl _ rfl | exact H.ld0 (by assumption) | assumption | exact H.ldS (by assumption) (by assumption))) ?_
  refine OPS.gval rfl rfl rfl rfl rfl (fun hg => Ev.fieldAddr (fld_run rfl) (by first | rfl | exact gvE hg rfl)) ?_
  refine OPS.gval rfl rfl rfl rfl rfl (fun hg => Ev.load1 (agg_run rfl) (by first | rfl | exact gvE hg rfl) (by first | exact H.ldL 0 rfl _ rfl | exact H.ldL 1 rfl _ rfl | exact H.ldL 2 rfl _ rfl | exact H.ldL 3 rfl _ rfl | exact H.ldL 4 rfl _ rfl | exact H.ldL 5 rfl _ rfl | exact H.ldL 6 rfl _ rfl | exact H.ldL 7 rfl _ rfl | exact H.ld0 (by assumption) | assumption | exact H.ldS (by assumption) (by assumption))) ?_
  refine OPS.gval rfl rfl rfl rfl rfl (fun hg => Ev.neq (by first | rfl | exact gvE hg rfl) (by first | rfl | exact gvE hg rfl)) ?_
  refine OPS.gval rfl rfl rfl rfl rfl (fun hg => Ev.mvB (by first | rfl | exact gvE hg rfl)) ?_
  refine OPS.gvalN rfl rfl (GB.g rfl) rfl rfl (fun hg => Ev.fieldAddr (fld_run rfl) (by first | rfl | exact gvE hg rfl)) ?_
  refine OPS.gvalN rfl rfl (GB.g rfl) rfl rfl (fun hg => Ev.load1 (agg_run rfl) (by first | rfl | exact gvE hg rfl) (by first | exact H.ldL 0 rfl _ rfl | exact H.ldL 1 rfl _ rfl | exact H.ldL 2 rfl _ rfl | exact H.ldL 3 rfl _ rfl | exact H.ldL 4 rfl _ rfl | exact H.ldL 5 rfl _ rfl | exact H.ldL 6 rfl _ rfl | exact H.ldL 7 rfl _ rfl | exact H.ld0 (by assumption) | assumption | exact H.ldS (by assumption) (by assumption))) ?_
  refine OPS.gvalN rfl rfl (GB.g rfl) rfl rfl (fun hg => Ev.fieldAddr (fld_run rfl) (by first | rfl | exact gvE hg rfl)) ?_
  refine OPS.gvalN rfl rfl (GB.g rfl) rfl rfl (fun hg => Ev.load1 (agg_run rfl) (by first | rfl | exact gvE hg rfl) (by first | exact H.ldL 0 rfl _ rfl | exact H.ldL 1 rfl _ rfl | exact H.ldL 2 rfl _ rfl | exact H.ldL 3 rfl _ rfl | exact H.ldL 4 rfl _ rfl | exact H.ldL 5 rfl _ rfl | exact H.ldL 6 rfl _ rfl | exact H.ldL 7 rfl _ rfl | exact H.ld0 (by assumption) | assumption | exact H.ldS (by assumption) (by assumption))) ?_
  refine OPS.gvalN rfl rfl (GB.g rfl) rfl rfl (fun hg => Ev.neq (by first | rfl | exact gvE hg rfl) (by first | rfl | exact gvE hg rfl)) ?_
  refine OPS.gval rfl rfl rfl rfl rfl (fun hg => (by first | exact Ev.pickAnd2 (beqT hg) (gvE hg rfl) rfl rfl | exact Ev.pickOr2 (beqT hg) (gvE hg rfl) rfl rfl)) ?_
  refine OPS.gval rfl rfl rfl rfl rfl (fun hg => Ev.mvB (by first | rfl | exact gvE hg rfl)) ?_
  refine OPS.gvalN rfl rfl (GB.g rfl) rfl rfl (fun hg => Ev.fieldAddr (fld_run rfl) (by first | rfl | exact gvE hg rfl)) ?_
  refine OPS.gvalN rfl rfl (GB.g rfl) rfl rfl (fun hg => Ev.load1 (agg_run rfl) (by first | rfl | exact gvE hg rfl) (by first | exact H.ldL 0 rfl _ rfl | exact H.ldL 1 rfl _ rfl | exact H.ldL 2 rfl _ rfl | exact H.ldL 3 rfl _ rfl | exact H.ldL 4 rfl _ rfl | exact H.ldL 5 rfl _ rfl | exact H.ldL 6 rfl _ rfl | exact H.ldL 7 rfl _ rfl | exact H.ld0 (by assumption) | assumption | exact H.ldS (by assumption) (by assumption))) ?_
  refine OPS.gvalN rfl rfl (GB.g rfl) rfl rfl (fun hg => Ev.fieldAddr (fld_run rfl) (by first | rfl | exact gvE hg rfl)) ?_
  refine OPS.gvalN rfl rfl (GB.g rfl) rfl rfl (fun hg => Ev.load1 (agg_run rfl) (by first | rfl | exact gvE hg rfl) (by first | exact H.ldL 0 rfl _ rfl | exact H.ldL 1 rfl _ rfl | exact H.ldL 2 rfl _ rfl | exact H.ldL 3 rfl _ rfl | exact H.ldL 4 rfl _ rfl | exact H.ldL 5 rfl _ rfl | exact H.ldL 6 rfl _ rfl | exact H.ldL 7 rfl _ rfl | exact H.ld0 (by assumption) | assumption | exact H.ldS (by assumption) (by assumption))) ?_
  refine OPS.gvalN rfl rfl (GB.g rfl) rfl rfl (fun hg => Ev.neq (by first | rfl | exact gvE hg rfl) (by first | rfl | exact gvE hg rfl)) ?_
  refine OPS.gval rfl rfl rfl rfl rfl (fun hg => (by first | exact Ev.pickAnd2 (beqT hg) (gvE hg rfl) rfl rfl | exact Ev.pickOr2 (beqT hg) (gvE hg rfl) rfl rfl)) ?_
  refine OPS.val rfl rfl rfl ((by first | exact Ev.pickOr rfl rfl rfl | exact Ev.pickAnd rfl rfl rfl)) ?_
  refine OPS.nil ?_
  refine WP.cond rfl (fun hc2 => ?_) (fun hc2 => ?_)
  · have hv : visS b s x er (now, out) = (⟨b, s.wh, s.pl, s.ri, x.a, 0⟩, endO now out x.a) := by
      rw [visS, if_pos]
      have h1 := hc2
      simp only [Bool.and_eq_true, decide_eq_true_eq] at h1
      exact ⟨h1.1, h1.2⟩
    refine WP.seq ?_
    have hcall := endS x.a gN gO now out A c Lo _ w hl hO (H.restart (Lv := LVs gN gO now A out.length c Lo) (((List.sublist_cons_self _ _).trans (List.sublist_cons_self _ _)).trans ((List.sublist_cons_self _ _).trans (List.sublist_cons_self _ _))))
    unfold endF at H
    refine WP.region ?_
    refine OPS.val rfl rfl rfl (Ev.load1 (agg_run rfl) rfl (by first | exact H.ldL 0 rfl _ rfl | exact H.ldL 1 rfl _ rfl | exact H.ldL 2 rfl _ rfl | exact H.ldL 3 rfl _ rfl | exact H.ldL 4 rfl _ rfl | exact H.ldL 5 rfl _ rfl | exact H.ldL 6 rfl _ rfl | exact H.ldL 7 rfl _ rfl | exact H.ld0 (by assumption) | assumption | exact H.ldS (by assumption) (by assumption))) ?_
    refine OPS.val rfl rfl rfl (Ev.fieldAddr (fld_run rfl) rfl) ?_
    refine OPS.val rfl rfl rfl (Ev.load1 (agg_run rfl) rfl (by first | exact H.ldL 0 rfl _ rfl | exact H.ldL 1 rfl _ rfl | exact H.ldL 2 rfl _ rfl | exact H.ldL 3 rfl _ rfl | exact H.ldL 4 rfl _ rfl | exact H.ldL 5 rfl _ rfl | exact H.ldL 6 rfl _ rfl | exact H.ldL 7 rfl _ rfl | exact H.ld0 (by assumption) | assumption | exact H.ldS (by assumption) (by assumption))) ?_
    refine OPS.call (d := some 43) rfl rfl rfl (EvC.clos rfl (fun_run (by first | rfl | assumption))) (hcall) ?_
    rintro _ w ⟨A', c', Lo', rfl, hO', Hc⟩
    refine ⟨_, rfl, ?_⟩
    replace H := SH.call (L1 := [⟨g9, 42, [I s.wh, I s.pl, I s.ri, .bool s.pa]⟩, ⟨g7, 56, [I x.d, I x.s, I x.a, I x.l, I x.k, I x.b, I x.p, I x.r, I x.i]⟩, ⟨gB, 3, [I b]⟩, ⟨gE, 63, [endF gN gO]⟩]) (Lv := LVs gN gO now A out.length c Lo) H Hc
    replace H : SH w0 S w (⟨g9, 42, [I s.wh, I s.pl, I s.ri, .bool s.pa]⟩ :: ⟨g7, 56, [I x.d, I x.s, I x.a, I x.l, I x.k, I x.b, I x.p, I x.r, I x.i]⟩ :: ⟨gB, 3, [I b]⟩ :: ⟨gE, 63, [endF gN gO]⟩ :: ⟨gN, 48, [I now.b, I now.wh, I now.pl, I now.ri, I now.fr, I x.a]⟩ :: ⟨gO, 37, [.slice A' (endO now out x.a).length c']⟩ :: Lo') := H
    refine OPS.nil ?_
    refine WP.region ?_
    refine OPS.val rfl rfl rfl (Ev.load1 (agg_run rfl) rfl (by first | exact H.ldL 0 rfl _ rfl | exact H.ldL 1 rfl _ rfl | exact H.ldL 2 rfl _ rfl | exact H.ldL 3 rfl _ rfl | exact H.ldL 4 rfl _ rfl | exact H.ldL 5 rfl _ rfl | exact H.ldL 6 rfl _ rfl | exact H.ldL 7 rfl _ rfl | exact H.ld0 (by assumption) | assumption | exact H.ldS (by assumption) (by assumption))) ?_
    refine OPS.val rfl rfl rfl (Ev.fieldAddr (fld_run rfl) rfl) ?_
    refine OPS.val rfl rfl rfl (Ev.load1 (agg_run rfl) rfl (by first | exact H.ldL 0 rfl _ rfl | exact H.ldL 1 rfl _ rfl | exact H.ldL 2 rfl _ rfl | exact H.ldL 3 rfl _ rfl | exact H.ldL 4 rfl _ rfl | exact H.ldL 5 rfl _ rfl | exact H.ldL 6 rfl _ rfl | exact H.ldL 7 rfl _ rfl | exact H.ld0 (by assumption) | assumption | exact H.ldS (by assumption) (by assumption))) ?_
    refine OPS.val rfl rfl rfl (Ev.fieldAddr (fld_run rfl) rfl) ?_
    refine OPS.val rfl rfl rfl (Ev.load1 (agg_run rfl) rfl (by first | exact H.ldL 0 rfl _ rfl | exact H.ldL 1 rfl _ rfl | exact H.ldL 2 rfl _ rfl | exact H.ldL 3 rfl _ rfl | exact H.ldL 4 rfl _ rfl | exact H.ldL 5 rfl _ rfl | exact H.ldL 6 rfl _ rfl | exact H.ldL 7 rfl _ rfl | exact H.ld0 (by assumption) | assumption | exact H.ldS (by assumption) (by assumption))) ?_
    refine OPS.val rfl rfl rfl (Ev.fieldAddr (fld_run rfl) rfl) ?_
    refine OPS.val rfl rfl rfl (Ev.load1 (agg_run rfl) rfl (by first | exact H.ldL 0 rfl _ rfl | exact H.ldL 1 rfl _ rfl | exact H.ldL 2 rfl _ rfl | exact H.ldL 3 rfl _ rfl | exact H.ldL 4 rfl _ rfl | exact H.ldL 5 rfl _ rfl | exact H.ldL 6 rfl _ rfl | exact H.ldL 7 rfl _ rfl | exact H.ld0 (by assumption) | assumption | exact H.ldS (by assumption) (by assumption))) ?_
    refine OPS.val rfl rfl rfl (Ev.fieldAddr (fld_run rfl) rfl) ?_
    refine OPS.val rfl rfl rfl (Ev.load1 (agg_run rfl) rfl (by first | exact H.ldL 0 rfl _ rfl | exact H.ldL 1 rfl _ rfl | exact H.ldL 2 rfl _ rfl | exact H.ldL 3 rfl _ rfl | exact H.ldL 4 rfl _ rfl | exact H.ldL 5 rfl _ rfl | exact H.ldL 6 rfl _ rfl | exact H.ldL 7 rfl _ rfl | exact H.ld0 (by assumption) | assumption | exact H.ldS (by assumption) (by assumption))) ?_
    refine OPS.val rfl rfl rfl (Ev.build (bld_46_0 rfl)) ?_
    refine OPS.val rfl rfl rfl (Ev.build (bld_48_0_1_2_3_4 rfl rfl rfl rfl rfl)) ?_
    first | refine OPS.store 0 _ rfl rfl rfl (size_run rfl) rfl (cA rfl) rfl rfl H rfl (by simp) ?_ | refine OPS.store 1 _ rfl rfl rfl (size_run rfl) rfl (cA rfl) rfl rfl H rfl (by simp) ?_ | refine OPS.store 2 _ rfl rfl rfl (size_run rfl) rfl (cA rfl) rfl rfl H rfl (by simp) ?_ | refine OPS.store 3 _ rfl rfl rfl (size_run rfl) rfl (cA rfl) rfl rfl H rfl (by simp) ?_ | refine OPS.store 4 _ rfl rfl rfl (size_run rfl) rfl (cA rfl) rfl rfl H rfl (by simp) ?_ | refine OPS.store 5 _ rfl rfl rfl (size_run rfl) rfl (cA rfl) rfl rfl H rfl (by simp) ?_ | refine OPS.store 6 _ rfl rfl rfl (size_run rfl) rfl (cA rfl) rfl rfl H rfl (by simp) ?_ | refine OPS.store 7 _ rfl rfl rfl (size_run rfl) rfl (cA rfl) rfl rfl H rfl (by simp) ?_ | refine OPS.store 8 _ rfl rfl rfl (size_run rfl) rfl (cA rfl) rfl rfl H rfl (by simp) ?_
    clear H; intro w H; try simp only [List.set_cons_zero, List.set_cons_succ, putL, Nat.zero_add] at H
    refine OPS.nil ?_
    refine ⟨_, rfl, ?_⟩
    rw [hv]
    first
      | exact ⟨A', c', Lo', rfl, hO', H.drop ((List.sublist_cons_self _ _).trans (List.sublist_cons_self _ _))⟩
      | exact ⟨A, c, Lo, rfl, hO, H.drop ((List.sublist_cons_self _ _).trans (List.sublist_cons_self _ _))⟩
  have hv : visS b s x er (now, out) = (now, out) := by
    rw [visS, if_neg]
    intro h1
    have h2 : decide (er = 0) = true := decide_eq_true h1.1
    have h3 := h1.2
    unfold difS at h3
    rw [h2, Bool.true_and] at hc2
    rw [h3] at hc2
    cases hc2
  refine WP.skip ?_
  refine ⟨_, rfl, ?_⟩
  rw [hv]
  first
    | exact ⟨A', c', Lo', rfl, hO', H.drop ((List.sublist_cons_self _ _).trans (List.sublist_cons_self _ _))⟩
    | exact ⟨A, c, Lo, rfl, hO, H.drop ((List.sublist_cons_self _ _).trans (List.sublist_cons_self _ _))⟩
end Go.Proofs.Ytchjbjplddhknaa

/-
  Plain: what holds of every state.
-/
set_option linter.all false
namespace Go.Proofs.Ytchjbjplddhknaa
open Go Go.W Go.RowKit

/-- two bicycles in one dock or one ride -/
def Conf (s t : Spt) : Prop := s.wh = t.wh ∧ (s.wh = 1 ∧ s.pl = t.pl ∨ s.wh = 3 ∧ s.ri = t.ri)
theorem Conf.symm {s t : Spt} (h : Conf s t) : Conf t s := by
  obtain ⟨h1, h2 | h2⟩ := h
  · exact ⟨h1.symm, .inl ⟨by omega, h2.2.symm⟩⟩
  · exact ⟨h1.symm, .inr ⟨by omega, h2.2.symm⟩⟩
structure Inv (σ : Sta) : Prop where
  us : ∀ s ∈ σ.sp, s.wh = 3 → s.ri ∈ σ.us
  one : ∀ i j, ∀ hi : i < σ.sp.length, ∀ hj : j < σ.sp.length, i ≠ j → ¬ Conf σ.sp[i] σ.sp[j]
theorem Inv.begin (n : Nat) (s : Spt) (h1 : s.wh ≠ 1) (h3 : s.wh ≠ 3) : Inv ⟨List.replicate n s, []⟩ := by
  refine ⟨fun t ht hw => ?_, fun i j hi hj hij hc => ?_⟩
  · obtain ⟨_, rfl⟩ := List.mem_replicate.1 ht
    exact absurd hw h3
  · simp only [List.getElem_replicate] at hc
    rcases hc.2 with h | h
    · exact h1 h.1
    · exact h3 h.1
theorem Inv.set {σ : Sta} (h : Inv σ) (b : Nat) (s : Spt) (us' : List Int) (hu : ∀ i ∈ σ.us, i ∈ us') (hs : s.wh = 3 → s.ri ∈ us') (hc : ∀ i, ∀ hi : i < σ.sp.length, i ≠ b → ¬ Conf s σ.sp[i]) : Inv ⟨σ.sp.set b s, us'⟩ := by
  refine ⟨fun t ht hw => ?_, fun i j hi hj hij => ?_⟩
  · rcases List.mem_or_eq_of_mem_set ht with h1 | rfl
    · exact hu _ (h.us t h1 hw)
    · exact hs hw
  · have hi' : i < σ.sp.length := by simpa using hi
    have hj' : j < σ.sp.length := by simpa using hj
    by_cases h1 : b = i
    · subst h1
      show ¬ Conf (σ.sp.set b s)[b] (σ.sp.set b s)[j]
      rw [List.getElem_set_self, List.getElem_set_ne hij]
      exact hc j hj' (Ne.symm hij)
    · by_cases h2 : b = j
      · subst h2
        show ¬ Conf (σ.sp.set b s)[i] (σ.sp.set b s)[b]
        rw [List.getElem_set_self, List.getElem_set_ne h1]
        exact fun h => hc i hi' hij h.symm
      · show ¬ Conf (σ.sp.set b s)[i] (σ.sp.set b s)[j]
        rw [List.getElem_set_ne h1, List.getElem_set_ne h2]
        exact h.one i j hi' hj' hij
end Go.Proofs.Ytchjbjplddhknaa

/-
  Plain: what is accepted keeps the states right.
-/
set_option linter.all false
namespace Go.Proofs.Ytchjbjplddhknaa
open Go Go.W Go.RowKit

theorem nconf {s t : Spt} (h1 : s.wh ≠ 1) (h3 : s.wh ≠ 3) : ¬ Conf s t := fun h => by
  rcases h.2 with h | h
  · exact h1 h.1
  · exact h3 h.1
theorem Inv.put {σ : Sta} (h : Inv σ) (b : Nat) (s : Spt) (h1 : s.wh ≠ 1) (h3 : s.wh ≠ 3) : Inv ⟨σ.sp.set b s, σ.us⟩ := h.set b s σ.us (fun _ hi => hi) (fun hw => absurd hw h3) (fun _ _ _ => nconf h1 h3)
theorem Inv.step {σ : Sta} {f : Flt} {x : Evt} (h : Inv σ) (hx : chk f x = 0) (hc : chkS f σ x = 0) (hl : (σ.sp.length : Int) = f.bk) : Inv (doS σ x) := by
  have hr := right_of hx
  have hb := hr.b
  have hjl : x.b.toNat < σ.sp.length := by omega
  have hgd : σ.sp.getD x.b.toNat default = σ.sp[x.b.toNat] := by rw [List.getD_eq_getElem?_getD, List.getElem?_eq_getElem hjl]; rfl
  have hspt : spt σ x = σ.sp[x.b.toNat] := hgd
  by_cases k1 : x.k = 1
  · rw [do1 k1]
    rw [chk1 k1] at hc
    have hcnt : cntP 1 x.p σ.sp = 0 := by
      by_cases hp : prk (spt σ x) = true
      · simp [hp] at hc
      · have hp : prk (spt σ x) = false := by simpa using hp
        simp [hp] at hc
        omega
    refine h.set _ _ _ (fun _ hi => hi) (fun hw => by simp at hw) (fun i hi _ hcf => ?_)
    rw [cntP, List.countP_eq_zero] at hcnt
    have := hcnt _ (List.getElem_mem hi)
    obtain ⟨h1, h2 | h2⟩ := hcf
    · have e1 : σ.sp[i].wh = 1 := h1.symm
      have e2 : σ.sp[i].pl = x.p := h2.2.symm
      simp [e1, e2] at this
    · exact absurd h2.1 (by simp)
  by_cases k2 : x.k = 2
  · rw [do2 k2]; exact h.put _ _ (by simp) (by simp)
  by_cases k3 : x.k = 3
  · rw [do3 k3]
    rw [chk3 k3] at hc
    have hnu : x.i ∉ σ.us := fun hi => by
      by_cases hp : prk (spt σ x) = false
      · rw [if_pos hp] at hc; cases hc
      · rw [if_neg hp, if_pos hi] at hc; cases hc
    refine h.set _ _ _ (fun _ hi => List.mem_cons_of_mem _ hi) (fun _ => List.mem_cons_self ..) (fun i hi _ hcf => ?_)
    obtain ⟨h1, h2 | h2⟩ := hcf
    · exact absurd h2.1 (by simp)
    · have e1 : σ.sp[i].wh = 3 := h1.symm
      have e2 : σ.sp[i].ri = x.i := h2.2.symm
      exact hnu (e2 ▸ h.us _ (List.getElem_mem hi) e1)
  by_cases k4 : x.k = 4
  · cases hI : opnI x.i σ.sp with
    | none => rw [show doS σ x = σ from by simp [doS, k4, hI]]; exact h
    | some c =>
      rw [do4 k4 hI, hgd]
      rw [opnI, List.findIdx?_eq_some_iff_getElem] at hI
      obtain ⟨hcl, hcp, _⟩ := hI
      have hcw : σ.sp[c].wh = 3 ∧ σ.sp[c].ri = x.i := by simpa using hcp
      have hgc : σ.sp.getD c default = σ.sp[c] := by rw [List.getD_eq_getElem?_getD, List.getElem?_eq_getElem hcl]; rfl
      have hp : prk σ.sp[x.b.toNat] = true := by
        cases ho : opn x.i σ.sp with
        | none => rw [chk4n k4 ho] at hc; cases hc
        | some t =>
          rw [chk4s k4 ho, hspt] at hc
          by_cases hq : prk σ.sp[x.b.toNat] = false
          · rw [if_pos hq] at hc; cases hc
          · simpa using hq
      have hw : σ.sp[x.b.toNat].wh = 1 ∨ σ.sp[x.b.toNat].wh = 2 := by simpa [prk] using hp
      have hne : x.b.toNat ≠ c := fun he => by subst he; omega
      have s1 := h.put x.b.toNat ⟨6, 0, 0, false, 0⟩ (by simp) (by simp)
      have g1 : ∀ i, ∀ hi : i < (σ.sp.set x.b.toNat ⟨6, 0, 0, false, 0⟩).length, i ≠ x.b.toNat → (σ.sp.set x.b.toNat ⟨6, 0, 0, false, 0⟩)[i] = σ.sp[i]'(by simpa using hi) := fun i hi hn => List.getElem_set_ne (Ne.symm hn) _
      have s2 := s1.set c σ.sp[x.b.toNat] σ.us (fun _ hi => hi) (fun h3 => by omega) (fun i hi hic hcf => by
        by_cases hib : i = x.b.toNat
        · subst hib
          rw [List.getElem_set_self] at hcf
          have := hcf.1
          simp only at this
          omega
        · rw [g1 i hi hib] at hcf
          exact h.one x.b.toNat i hjl (by simpa using hi) (Ne.symm hib) hcf)
      have s3 := s2.set x.b.toNat ⟨3, 0, x.i, false, (σ.sp.getD c default).who⟩ σ.us (fun _ hi => hi) (fun _ => by have := h.us σ.sp[c] (List.getElem_mem hcl) hcw.1; rw [hcw.2] at this; exact this) (fun i hi hib hcf => by
        have hi1 : i < σ.sp.length := by simpa using hi
        by_cases hic : c = i
        · subst hic
          rw [List.getElem_set_self] at hcf
          have := hcf.1
          simp only at this
          omega
        · rw [List.getElem_set_ne hic, List.getElem_set_ne (Ne.symm hib)] at hcf
          obtain ⟨h1, h2 | h2⟩ := hcf
          · exact absurd h2.1 (by simp)
          · exact h.one c i hcl hi1 hic ⟨by rw [hcw.1]; exact h1, .inr ⟨hcw.1, by rw [hcw.2]; exact h2.2⟩⟩)
      have he : ((σ.sp.set x.b.toNat ⟨6, 0, 0, false, 0⟩).set c σ.sp[x.b.toNat]).set x.b.toNat ⟨3, 0, x.i, false, (σ.sp.getD c default).who⟩ = (σ.sp.set c σ.sp[x.b.toNat]).set x.b.toNat ⟨3, 0, x.i, false, (σ.sp.getD c default).who⟩ := by
        rw [List.set_comm _ _ hne, List.set_set]
      rw [← he]
      exact s3
  by_cases k56 : x.k = 5 ∨ x.k = 6
  · rw [do56 k56, hgd]
    refine h.set _ _ _ (fun _ hi => hi) (fun hw => h.us σ.sp[x.b.toNat] (List.getElem_mem hjl) hw) (fun i hi hne hcf => ?_)
    exact h.one i x.b.toNat hi hjl hne (Conf.symm hcf)
  by_cases k7 : x.k = 7
  · rw [do7 k7]; exact h.put _ _ (by simp) (by simp)
  by_cases k8 : x.k = 8
  · rw [do8 k8]; exact h.put _ _ (by simp) (by simp)
  by_cases k9 : x.k = 9
  · rw [do9 k9]; exact h.put _ _ (by simp) (by simp)
  rw [do0 ⟨k1, k2, k3, k4, fun h => k56 (.inl h), fun h => k56 (.inr h), k7, k8, k9⟩]
  exact h
end Go.Proofs.Ytchjbjplddhknaa
