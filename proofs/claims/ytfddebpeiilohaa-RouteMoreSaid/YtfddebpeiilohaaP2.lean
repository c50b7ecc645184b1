/-
  Walks: before, Same, each, few, the example's night.
-/
import Derived.Test.YtfddebpeiilohaaP1
import Derived.Test.YtfddebpeiilohaaT14
set_option linter.all false
namespace Go.Proofs.Ytfddebpeiilohaa
open Go Go.W Go.RowKit

theorem ret_b {v : Value} {b c : Bool} (h : v = .bool b) (hb : b = c) : Ending.returned v = .returned (.bool c) := by rw [h, hb]
theorem lexB_drop {a b : List Int} : ∀ {j : Nat}, j ≤ a.length → j ≤ b.length → (∀ i (h : i < a.length) (h2 : i < b.length), i < j → a[i] = b[i]) → lexB a b = lexB (a.drop j) (b.drop j)
  | 0, _, _, _ => by simp
  | j + 1, h1, h2, h => by
    rw [lexB_drop (j := j) (by omega) (by omega) (fun i q1 q2 q3 => h i q1 q2 (by omega)), List.drop_eq_getElem_cons (show j < a.length by omega), List.drop_eq_getElem_cons (show j < b.length by omega), h j (by omega) (by omega) (by omega), lexB_head]
theorem rBefore0 (A B : Option Addr) (a b : List Int) (c1 c2 : Nat) (w0 : World) (ha : IntsAt w0 A a) (hb : IntsAt w0 B b) (hl : a.length ≤ 1000) (hl2 : b.length ≤ 1000) :
    Calls Try.prog 33 #[.slice A a.length c1, .slice B b.length c2] w0 fun e w' => e = .returned (.bool (lexB a b)) ∧ Below w0.heap.size w0 w' := by
  have H := SH.refl w0
  refine Calls.ofWP Try.func33 rfl Try.results33 Try.ntmps33 rfl ?_
  refine WP.seq ?_
  refine WP.region ?_
  refine OPS.val rfl rfl rfl (Ev.asB rfl) ?_
  refine OPS.nil ?_
  refine WP.seq ?_
  refine WP.seq ?_
  refine WP.region ?_
  refine OPS.val rfl rfl rfl (Ev.asI rfl) ?_
  refine OPS.nil ?_
  refine WP.block ?_
  refine WP.loop [4, 5, 6, 7, 8, 9, 10, 11, 12, 13, 14, 15, 16, 17, 18, 19, 20, 21, 22, 23, 24, 25, 26, 27, 28, 29, 30, 31, 32, 33, 34, 35] (fun k e w' => ∃ (j : Nat), j + k = a.length ∧ e 5 = I j ∧ j ≤ b.length ∧ (∀ i (h : i < a.length) (h2 : i < b.length), i < j → a[i] = b[i]) ∧ SH w0 [] w' []) (a.length) (⟨0, by omega, rfl, by omega, fun _ _ _ _ => by omega, H⟩) ?_
  clear H
  rintro k u w ⟨j, hk, h5, hjb, hall, H⟩
  refine WP.know (t := 5) h5 ?_
  refine WP.seq ?_
  refine WP.seq ?_
  refine WP.region ?_
  refine OPS.val rfl rfl rfl (Ev.mvI rfl) ?_
  refine OPS.val rfl rfl rfl (Ev.mvS rfl) ?_
  refine OPS.val rfl rfl rfl (Ev.len (el_run rfl) rfl) ?_
  refine OPS.val rfl rfl rfl (Ev.lss rfl rfl) ?_
  refine OPS.val rfl rfl rfl (Ev.mvB rfl) ?_
  refine OPS.gval rfl rfl rfl rfl rfl (fun hg => Ev.mvI (by rfl)) ?_
  refine OPS.gval rfl rfl rfl rfl rfl (fun hg => Ev.mvS (by rfl)) ?_
  refine OPS.gval rfl rfl rfl rfl rfl (fun hg => Ev.len (el_run rfl) (by exact gvE hg rfl)) ?_
  refine OPS.gval rfl rfl rfl rfl rfl (fun hg => Ev.lss (by exact gvE hg rfl) (by exact gvE hg rfl)) ?_
  refine OPS.val rfl rfl rfl ((by exact Ev.pickAnd rfl rfl rfl)) ?_
  refine OPS.nil ?_
  refine WP.cond rfl (fun hc2 => ?_) (fun hc2 => ?_)
  · have hlt : j < a.length ∧ j < b.length := by simpa using hc2
    obtain ⟨hlt, hlt2⟩ := hlt
    obtain ⟨b1, o1, rfl, hx⟩ := ha j hlt
    obtain ⟨b2, o2, rfl, hy⟩ := hb j hlt2
    have hd : lexB a b = (if a[j] < b[j] then true else if b[j] < a[j] then false else lexB (a.drop (j + 1)) (b.drop (j + 1))) := by rw [lexB_drop (j := j) (by omega) (by omega) hall, List.drop_eq_getElem_cons hlt, List.drop_eq_getElem_cons hlt2, lexB]
    refine WP.skip ?_
    refine WP.seq ?_
    refine WP.block ?_
    refine WP.seq ?_
    refine WP.rstill mixed (by kernel_rfl) H ?_
    clear H; intro w hbw4 H
    refine OPS.val rfl rfl rfl (Ev.mvS rfl) ?_
    refine OPS.val rfl rfl rfl (Ev.mvI rfl) ?_
    refine OPS.val rfl rfl rfl ((by exact Ev.indexAddr1 (el_run rfl) (size_run rfl) rfl rfl rfl (by omega))) ?_
    refine OPS.val rfl rfl rfl (Ev.load1 (agg_run rfl) rfl (by exact H.ld0 (by assumption))) ?_
    refine OPS.val rfl rfl rfl (Ev.mvS rfl) ?_
    refine OPS.val rfl rfl rfl (Ev.mvI rfl) ?_
    refine OPS.val rfl rfl rfl ((by exact Ev.indexAddr1 (el_run rfl) (size_run rfl) rfl rfl rfl (by omega))) ?_
    refine OPS.val rfl rfl rfl (Ev.load1 (agg_run rfl) rfl (by exact H.ld0 (by assumption))) ?_
    refine OPS.val rfl rfl rfl (Ev.neq rfl rfl) ?_
    refine OPS.nil_s ?_
    refine WP.cond rfl (fun hc4 => ?_) (fun hc4 => ?_)
    · refine WP.seq ?_
      refine WP.rstill mixed (by kernel_rfl) H ?_
      clear H; intro w hbw5 H
      refine OPS.val rfl rfl rfl (Ev.mvS rfl) ?_
      refine OPS.val rfl rfl rfl (Ev.mvI rfl) ?_
      refine OPS.val rfl rfl rfl ((by exact Ev.indexAddr1 (el_run rfl) (size_run rfl) rfl rfl rfl (by omega))) ?_
      refine OPS.val rfl rfl rfl (Ev.load1 (agg_run rfl) rfl (by exact H.ld0 (by assumption))) ?_
      refine OPS.val rfl rfl rfl (Ev.mvS rfl) ?_
      refine OPS.val rfl rfl rfl (Ev.mvI rfl) ?_
      refine OPS.val rfl rfl rfl ((by exact Ev.indexAddr1 (el_run rfl) (size_run rfl) rfl rfl rfl (by omega))) ?_
      refine OPS.val rfl rfl rfl (Ev.load1 (agg_run rfl) rfl (by exact H.ld0 (by assumption))) ?_
      refine OPS.val rfl rfl rfl (Ev.lss rfl rfl) ?_
      refine OPS.val rfl rfl rfl (Ev.asB rfl) ?_
      refine OPS.nil_s ?_
      refine WP.ret ⟨_, rfl, ?_⟩
      have hne : a[j] ≠ b[j] := by simpa using hc4
      have hv : lexB a b = decide (a[j] < b[j]) := by
        rw [hd]
        by_cases h : a[j] < b[j]
        · rw [if_pos h, decide_eq_true h]
        · rw [if_neg h, if_pos (by omega), decide_eq_false h]
      exact ⟨by rw [hv]; rfl, H.below⟩
    have heq : a[j] = b[j] := by simpa using hc4
    refine WP.skip ?_
    refine WP.region ?_
    refine OPS.val rfl rfl rfl (Ev.mvI rfl) ?_
    refine OPS.val rfl rfl rfl (Ev.add rfl rfl (by unfold fits; omega)) ?_
    refine OPS.val rfl rfl rfl (Ev.asI rfl) ?_
    refine OPS.nil ?_
    exact ⟨(by repeat (first | exact Agree.refl _ _ | exact Agree.mix _ _ _ | refine Agree.upd rfl ?_ | refine Agree.mix2 rfl ?_)), k - 1, by omega, j + 1, by omega, rfl, by omega, (fun i h1 h2 h3 => by
      rcases Nat.lt_or_eq_of_le (Nat.le_of_lt_succ h3) with h | rfl
      · exact hall i h1 h2 h
      · exact heq), H⟩
  refine WP.exit ?_
  refine XB.hit ?_
  refine WP.seq ?_
  refine WP.region ?_
  refine OPS.val rfl rfl rfl (Ev.mvS rfl) ?_
  refine OPS.val rfl rfl rfl (Ev.len (el_run rfl) rfl) ?_
  refine OPS.val rfl rfl rfl (Ev.mvS rfl) ?_
  refine OPS.val rfl rfl rfl (Ev.len (el_run rfl) rfl) ?_
  refine OPS.val rfl rfl rfl (Ev.lss rfl rfl) ?_
  refine OPS.val rfl rfl rfl (Ev.asB rfl) ?_
  refine OPS.nil ?_
  refine WP.ret ⟨_, rfl, ?_⟩
  have hge : ¬ (j < a.length ∧ j < b.length) := by simpa using hc2
  have hv : lexB a b = decide (a.length < b.length) := by
    rw [lexB_drop (j := j) (by omega) (by omega) hall]
    by_cases h : j = a.length
    · subst h
      rw [List.drop_length]
      by_cases h2 : a.length < b.length
      · rw [List.drop_eq_getElem_cons h2, decide_eq_true h2]; rfl
      · rw [List.drop_eq_nil_of_le (show b.length ≤ a.length by omega), decide_eq_false h2]; rfl
    · rw [List.drop_eq_getElem_cons (show j < a.length by omega), List.drop_eq_nil_of_le (show b.length ≤ j by omega), decide_eq_false (by omega)]; rfl
  have e1 : decide ((a.length : Int) < b.length) = decide (a.length < b.length) := decide_eq_decide.2 (by omega)
  exact ⟨by rw [hv, ← e1]; rfl, H.below⟩
theorem rBefore (A B : Option Addr) (a b : List Int) (c1 c2 : Nat) (w0 : World) (ha : IntsAt w0 A a) (hb : IntsAt w0 B b) (hl : a.length ≤ 1000) (hl2 : b.length ≤ 1000) :
    Calls Try.prog 20 #[.slice A a.length c1, .slice B b.length c2] w0 fun e w' => e = .returned (.bool (lexB a b)) ∧ Below w0.heap.size w0 w' := by
  have H := SH.refl w0
  refine Calls.ofWP Try.func20 rfl Try.results20 Try.ntmps20 rfl ?_
  refine WP.seq ?_
  refine WP.region ?_
  refine OPS.val rfl rfl rfl (Ev.asB rfl) ?_
  refine OPS.nil ?_
  refine WP.seq ?_
  refine WP.region ?_
  refine OPS.val rfl rfl rfl (Ev.mvS rfl) ?_
  refine OPS.val rfl rfl rfl (Ev.mvS rfl) ?_
  refine OPS.call (d := some 7) rfl rfl rfl (EvC.func (fun_run rfl)) (rBefore0 A B a b c1 c2 w0 ha hb hl hl2) ?_
  rintro _ w ⟨rfl, hb⟩
  refine ⟨_, rfl, ?_⟩
  replace H := H.toBelow hb; clear hb
  refine OPS.val rfl rfl rfl (Ev.asB rfl) ?_
  refine OPS.nil ?_
  refine WP.ret ⟨_, rfl, ?_⟩
  exact ⟨rfl, H.below⟩
set_option maxHeartbeats 1000000 in
theorem rSame (p q : Int) (A B : Option Addr) (a b : List Int) (c1 c2 : Nat) (w0 : World) (ha : IntsAt w0 A a) (hb : IntsAt w0 B b) (hl : a.length ≤ 1000) (hl2 : b.length ≤ 1000) :
    Calls Try.prog 13 #[.agg #[I p, .slice A a.length c1], .agg #[I q, .slice B b.length c2]] w0 fun e w' => e = .returned (.bool (decide (p = q ∧ a = b))) ∧ Below w0.heap.size w0 w' := by
  have H := SH.refl w0
  refine Calls.ofWP Try.func13 rfl Try.results13 Try.ntmps13 rfl ?_
  refine WP.seq ?_
  refine WP.region ?_
  refine OPS.box rfl rfl rfl rfl (cA rfl) H ?_
  clear H; intro g2 w H
  refine OPS.box rfl rfl rfl rfl (cA rfl) H ?_
  clear H; intro g3 w H
  refine OPS.val rfl rfl rfl (Ev.asB rfl) ?_
  refine OPS.nil ?_
  refine WP.seq ?_
  refine WP.seq ?_
  refine WP.region ?_
  refine OPS.val rfl rfl rfl (Ev.fieldAddr (fld_run rfl) rfl) ?_
  refine OPS.val rfl rfl rfl (Ev.load1 (agg_run rfl) rfl (by exact H.ldL 1 rfl _ rfl)) ?_
  refine OPS.val rfl rfl rfl (Ev.fieldAddr (fld_run rfl) rfl) ?_
  refine OPS.val rfl rfl rfl (Ev.load1 (agg_run rfl) rfl (by exact H.ldL 0 rfl _ rfl)) ?_
  refine OPS.val rfl rfl rfl (Ev.neq rfl rfl) ?_
  refine OPS.val rfl rfl rfl (Ev.mvB rfl) ?_
  refine OPS.gval rfl rfl rfl rfl rfl (fun hg => Ev.fieldAddr (fld_run rfl) (by rfl)) ?_
  refine OPS.gval rfl rfl rfl rfl rfl (fun hg => Ev.load1 (agg_run rfl) (by exact gvE hg rfl) (by exact H.ldL 1 rfl _ rfl)) ?_
  refine OPS.gval rfl rfl rfl rfl rfl (fun hg => Ev.len (el_run rfl) (by exact gvE hg rfl)) ?_
  refine OPS.gval rfl rfl rfl rfl rfl (fun hg => Ev.fieldAddr (fld_run rfl) (by rfl)) ?_
  refine OPS.gval rfl rfl rfl rfl rfl (fun hg => Ev.load1 (agg_run rfl) (by exact gvE hg rfl) (by exact H.ldL 0 rfl _ rfl)) ?_
  refine OPS.gval rfl rfl rfl rfl rfl (fun hg => Ev.len (el_run rfl) (by exact gvE hg rfl)) ?_
  refine OPS.gval rfl rfl rfl rfl rfl (fun hg => Ev.neq (by exact gvE hg rfl) (by exact gvE hg rfl)) ?_
  refine OPS.val rfl rfl rfl ((by exact Ev.pickOr rfl rfl rfl)) ?_
  refine OPS.nil ?_
  refine WP.cond rfl (fun hc1 => ?_) (fun hc1 => ?_)
  · refine WP.seq ?_
    refine WP.region ?_
    refine OPS.val rfl rfl rfl (Ev.asB rfl) ?_
    refine OPS.nil ?_
    refine WP.ret ⟨_, rfl, ?_⟩
    have h : ¬ (p = q ∧ a = b) := by
      rintro ⟨h1, h2⟩
      subst h1 h2
      simp at hc1
    exact ⟨ret_b rfl (decide_eq_false h).symm, H.below⟩
  have h : p = q ∧ a.length = b.length := by simp at hc1; omega
  obtain ⟨hpq, hab⟩ := h
  refine WP.skip ?_
  refine WP.seq ?_
  refine WP.seq ?_
  refine WP.region ?_
  refine OPS.val rfl rfl rfl (Ev.asI rfl) ?_
  refine OPS.nil ?_
  refine WP.block ?_
  refine WP.loop [4, 5, 20, 21, 22, 23, 24, 25, 26, 27, 28, 29, 30, 31, 32, 33, 34, 35, 36, 37] (fun k e w' => ∃ (j : Nat), j + k = a.length ∧ e 5 = I j ∧ (∀ i (h1 : i < a.length) (h2 : i < b.length), i < j → a[i] = b[i]) ∧ SH w0 [] w' [⟨g3, 34, [I q, .slice B b.length c2]⟩, ⟨g2, 34, [I p, .slice A a.length c1]⟩]) (a.length) (⟨0, by omega, rfl, fun _ _ _ h => absurd h (by omega), H⟩) ?_
  clear H
  rintro k u w ⟨j, hk, h5, hall, H⟩
  refine WP.know (t := 5) h5 ?_
  refine WP.seq ?_
  refine WP.seq ?_
  refine WP.region ?_
  refine OPS.val rfl rfl rfl (Ev.mvI rfl) ?_
  refine OPS.val rfl rfl rfl (Ev.fieldAddr (fld_run rfl) rfl) ?_
  refine OPS.val rfl rfl rfl (Ev.load1 (agg_run rfl) rfl (by exact H.ldL 1 rfl _ rfl)) ?_
  refine OPS.val rfl rfl rfl (Ev.len (el_run rfl) rfl) ?_
  refine OPS.val rfl rfl rfl (Ev.lss rfl rfl) ?_
  refine OPS.nil ?_
  refine WP.cond rfl (fun hc4 => ?_) (fun hc4 => ?_)
  · have hlt : j < a.length := by simpa using hc4
    have hlt2 : j < b.length := by omega
    obtain ⟨b1, o1, rfl, hx⟩ := ha j hlt
    obtain ⟨b2, o2, rfl, hy⟩ := hb j hlt2
    refine WP.skip ?_
    refine WP.seq ?_
    refine WP.block ?_
    refine WP.seq ?_
    refine WP.rstill mixed (by kernel_rfl) H ?_
    clear H; intro w hbw6 H
    refine OPS.val rfl rfl rfl (Ev.fieldAddr (fld_run rfl) rfl) ?_
    refine OPS.val rfl rfl rfl (Ev.load1 (agg_run rfl) rfl (by exact H.ldL 1 rfl _ rfl)) ?_
    refine OPS.val rfl rfl rfl (Ev.mvI rfl) ?_
    refine OPS.val rfl rfl rfl ((by exact Ev.indexAddr1 (el_run rfl) (size_run rfl) rfl rfl rfl (by omega))) ?_
    refine OPS.val rfl rfl rfl (Ev.load1 (agg_run rfl) rfl (by exact H.ld0 (by assumption))) ?_
    refine OPS.val rfl rfl rfl (Ev.fieldAddr (fld_run rfl) rfl) ?_
    refine OPS.val rfl rfl rfl (Ev.load1 (agg_run rfl) rfl (by exact H.ldL 0 rfl _ rfl)) ?_
    refine OPS.val rfl rfl rfl (Ev.mvI rfl) ?_
    refine OPS.val rfl rfl rfl ((by exact Ev.indexAddr1 (el_run rfl) (size_run rfl) rfl rfl rfl (by omega))) ?_
    refine OPS.val rfl rfl rfl (Ev.load1 (agg_run rfl) rfl (by exact H.ld0 (by assumption))) ?_
    refine OPS.val rfl rfl rfl (Ev.neq rfl rfl) ?_
    refine OPS.nil_s ?_
    refine WP.cond rfl (fun hc6 => ?_) (fun hc6 => ?_)
    · refine WP.seq ?_
      refine WP.region ?_
      refine OPS.val rfl rfl rfl (Ev.asB rfl) ?_
      refine OPS.nil ?_
      refine WP.ret ⟨_, rfl, ?_⟩
      have hne : a[j] ≠ b[j] := by simpa using hc6
      exact ⟨ret_b rfl (decide_eq_false (fun e => hne (by simp only [e.2]))).symm, H.below⟩
    have heq : a[j] = b[j] := by simpa using hc6
    refine WP.skip ?_
    refine WP.region ?_
    refine OPS.val rfl rfl rfl (Ev.mvI rfl) ?_
    refine OPS.val rfl rfl rfl (Ev.add rfl rfl (by unfold fits; omega)) ?_
    refine OPS.val rfl rfl rfl (Ev.asI rfl) ?_
    refine OPS.nil ?_
    exact ⟨(by repeat (first | exact Agree.refl _ _ | exact Agree.mix _ _ _ | refine Agree.upd rfl ?_ | refine Agree.mix2 rfl ?_)), k - 1, by omega, j + 1, by omega, rfl, (fun i h1 h2 h3 => by
      rcases Nat.lt_or_eq_of_le (Nat.le_of_lt_succ h3) with h | rfl
      · exact hall i h1 h2 h
      · exact heq), H⟩
  refine WP.exit ?_
  refine XB.hit ?_
  refine WP.seq ?_
  refine WP.region ?_
  refine OPS.val rfl rfl rfl (Ev.asB rfl) ?_
  refine OPS.nil ?_
  refine WP.ret ⟨_, rfl, ?_⟩
  have hj : j = a.length := by simp at hc4; omega
  exact ⟨ret_b rfl (decide_eq_true ⟨hpq, List.ext_getElem hab fun i h1 h2 => hall i h1 h2 (by omega)⟩).symm, H.below⟩
def eachB (a b : List Int) : Bool := decide (a.Nodup ∧ ∀ x ∈ a, x ∈ b)
set_option maxHeartbeats 2000000 in
theorem lawEach (A B : Option Addr) (a b : List Int) (c1 c2 : Nat) (w0 : World) (ha : IntsAt w0 A a) (hb : IntsAt w0 B b) (hl : a.length ≤ 1000) (hl2 : b.length ≤ 1000) :
    Calls Try.prog 18 #[.slice A a.length c1, .slice B b.length c2] w0 fun e w' => e = .returned (.bool (eachB a b)) ∧ Below w0.heap.size w0 w' := by
  have H := SH.refl w0
  refine Calls.ofWP Try.func18 rfl Try.results18 Try.ntmps18 rfl ?_
  refine WP.seq ?_
  refine WP.region ?_
  refine OPS.val rfl rfl rfl (Ev.asB rfl) ?_
  refine OPS.nil ?_
  refine WP.seq ?_
  refine WP.seq ?_
  refine WP.region ?_
  refine OPS.val rfl rfl rfl (Ev.asI rfl) ?_
  refine OPS.nil ?_
  refine WP.block ?_
  refine WP.loop [4, 5, 6, 7, 8, 9, 10, 11, 12, 13, 14, 15, 16, 17, 18, 19, 20, 21, 22, 23, 24, 25, 26, 27, 28, 29, 30, 31, 32, 33, 34, 35, 36, 37, 38, 39, 40, 41, 42, 43, 44, 45, 46, 47, 48, 49, 50, 51] (fun k e w' => ∃ (i : Nat), i + k = a.length ∧ e 5 = I i ∧ (a.take i).Nodup ∧ (∀ x ∈ a.take i, x ∈ b) ∧ SH w0 [] w' []) (a.length) (⟨0, by omega, rfl, by simp, by simp, H⟩) ?_
  clear H
  rintro k u w ⟨i, hk, h5, hnd, hall, H⟩
  refine WP.know (t := 5) h5 ?_
  refine WP.seq ?_
  refine WP.seq ?_
  refine WP.region ?_
  refine OPS.val rfl rfl rfl (Ev.mvI rfl) ?_
  refine OPS.val rfl rfl rfl (Ev.mvS rfl) ?_
  refine OPS.val rfl rfl rfl (Ev.len (el_run rfl) rfl) ?_
  refine OPS.val rfl rfl rfl (Ev.lss rfl rfl) ?_
  refine OPS.nil ?_
  refine WP.cond rfl (fun hc2 => ?_) (fun hc2 => ?_)
  · have hlt : i < a.length := by simpa using hc2
    obtain ⟨b1, o1, rfl, hx⟩ := ha i hlt
    have htk := List.take_succ_eq_append_getElem hlt
    refine WP.skip ?_
    refine WP.seq ?_
    refine WP.block ?_
    refine WP.seq ?_
    refine WP.region ?_
    refine OPS.val rfl rfl rfl (Ev.asB rfl) ?_
    refine OPS.nil ?_
    refine WP.seq ?_
    refine WP.seq ?_
    refine WP.region ?_
    refine OPS.val rfl rfl rfl (Ev.asI rfl) ?_
    refine OPS.nil ?_
    refine WP.block ?_
    refine WP.loop [6, 7, 15, 16, 17, 18, 19, 20, 21, 22, 23, 24, 25, 26, 27, 28, 29, 30, 31, 32] (fun k e w' => ∃ (j : Nat), j + k = b.length ∧ e 7 = I j ∧ e 6 = .bool (decide (a[i] ∈ b.take j)) ∧ SH w0 [] w' []) (b.length) (⟨0, by omega, rfl, by show Value.bool false = _; simp, H⟩) ?_
    clear H
    rintro k6 u6 w ⟨j, hk6, h7, h6, H⟩
    refine WP.know (t := 7) h7 (WP.know (t := 6) h6 ?_)
    refine WP.seq ?_
    refine WP.seq ?_
    refine WP.region ?_
    refine OPS.val rfl rfl rfl (Ev.mvI rfl) ?_
    refine OPS.val rfl rfl rfl (Ev.mvS rfl) ?_
    refine OPS.val rfl rfl rfl (Ev.len (el_run rfl) rfl) ?_
    refine OPS.val rfl rfl rfl (Ev.lss rfl rfl) ?_
    refine OPS.nil ?_
    refine WP.cond rfl (fun hc6 => ?_) (fun hc6 => ?_)
    · have hlt2 : j < b.length := by simpa using hc6
      obtain ⟨b2, o2, rfl, hy⟩ := hb j hlt2
      have htk2 := List.take_succ_eq_append_getElem hlt2
      refine WP.skip ?_
      refine WP.seq ?_
      refine WP.block ?_
      refine WP.rstill mixed (by kernel_rfl) H ?_
      clear H; intro w hbw8 H
      refine OPS.val rfl rfl rfl (Ev.mvB rfl) ?_
      refine OPS.val rfl rfl rfl (Ev.mvB rfl) ?_
      refine OPS.gval rfl rfl rfl rfl rfl (fun hg => Ev.mvS (by rfl)) ?_
      refine OPS.gval rfl rfl rfl rfl rfl (fun hg => Ev.mvI (by rfl)) ?_
      refine OPS.gval rfl rfl rfl rfl rfl (fun hg => (by exact Ev.indexAddr1 (el_run rfl) (size_run rfl) (by exact gvE hg rfl) (by exact gvE hg rfl) rfl (by omega))) ?_
      refine OPS.gval rfl rfl rfl rfl rfl (fun hg => Ev.load1 (agg_run rfl) (by exact gvE hg rfl) (by exact H.ld0 (by assumption))) ?_
      refine OPS.gval rfl rfl rfl rfl rfl (fun hg => Ev.mvS (by rfl)) ?_
      refine OPS.gval rfl rfl rfl rfl rfl (fun hg => Ev.mvI (by rfl)) ?_
      refine OPS.gval rfl rfl rfl rfl rfl (fun hg => (by exact Ev.indexAddr1 (el_run rfl) (size_run rfl) (by exact gvE hg rfl) (by exact gvE hg rfl) rfl (by omega))) ?_
      refine OPS.gval rfl rfl rfl rfl rfl (fun hg => Ev.load1 (agg_run rfl) (by exact gvE hg rfl) (by exact H.ld0 (by assumption))) ?_
      refine OPS.gval rfl rfl rfl rfl rfl (fun hg => Ev.eql (by exact gvE hg rfl) (by exact gvE hg rfl)) ?_
      refine OPS.val rfl rfl rfl ((by exact Ev.pickOr rfl rfl rfl)) ?_
      refine OPS.val rfl rfl rfl (Ev.asB rfl) ?_
      refine OPS.nil_s ?_
      refine WP.region ?_
      refine OPS.val rfl rfl rfl (Ev.mvI rfl) ?_
      refine OPS.val rfl rfl rfl (Ev.add rfl rfl (by unfold fits; omega)) ?_
      refine OPS.val rfl rfl rfl (Ev.asI rfl) ?_
      refine OPS.nil ?_
      exact ⟨(by repeat (first | exact Agree.refl _ _ | exact Agree.mix _ _ _ | refine Agree.upd rfl ?_ | refine Agree.mix2 rfl ?_)), k6 - 1, by omega, j + 1, by omega, rfl, (by
        rw [htk2]
        show Value.bool (decide (a[i] ∈ b.take j) || decide (a[i] = b[j])) = _
        rw [← Bool.decide_or]
        congr 1
        simp only [List.mem_append, List.mem_singleton]), H⟩
    have hj : j = b.length := by simp at hc6; omega
    rw [hj, List.take_length]
    refine WP.exit ?_
    refine XB.hit ?_
    refine WP.seq ?_
    refine WP.seq ?_
    refine WP.region ?_
    refine OPS.val rfl rfl rfl (Ev.asI rfl) ?_
    refine OPS.nil ?_
    refine WP.block ?_
    refine WP.loop [6, 8, 33, 34, 35, 36, 37, 38, 39, 40, 41, 42, 43, 44, 45, 46, 47, 48, 49] (fun k e w' => ∃ (q : Nat), q + k = i ∧ e 8 = I q ∧ e 6 = .bool (decide (a[i] ∈ b ∧ a[i] ∉ a.take q)) ∧ SH w0 [] w' []) (i) (⟨0, by omega, rfl, by show Value.bool (decide (a[i] ∈ b)) = _; simp, H⟩) ?_
    clear H
    rintro k10 u10 w ⟨q, hk10, h8, h6, H⟩
    refine WP.know (t := 8) h8 (WP.know (t := 6) h6 ?_)
    refine WP.seq ?_
    refine WP.seq ?_
    refine WP.region ?_
    refine OPS.val rfl rfl rfl (Ev.mvI rfl) ?_
    refine OPS.val rfl rfl rfl (Ev.mvI rfl) ?_
    refine OPS.val rfl rfl rfl (Ev.lss rfl rfl) ?_
    refine OPS.nil ?_
    refine WP.cond rfl (fun hc10 => ?_) (fun hc10 => ?_)
    · have hlt3 : q < i := by simpa using hc10
      have hz : w0.cell? ⟨b1, o1 + q, none⟩ = some (I a[q]) := by
        obtain ⟨b3, o3, e3, hz⟩ := ha q (by omega)
        cases e3; exact hz
      have htk3 := List.take_succ_eq_append_getElem (show q < a.length by omega)
      refine WP.skip ?_
      refine WP.seq ?_
      refine WP.block ?_
      refine WP.rstill mixed (by kernel_rfl) H ?_
      clear H; intro w hbw12 H
      refine OPS.val rfl rfl rfl (Ev.mvB rfl) ?_
      refine OPS.val rfl rfl rfl (Ev.mvB rfl) ?_
      refine OPS.gval rfl rfl rfl rfl rfl (fun hg => Ev.mvS (by rfl)) ?_
      refine OPS.gval rfl rfl rfl rfl rfl (fun hg => Ev.mvI (by rfl)) ?_
      refine OPS.gval rfl rfl rfl rfl rfl (fun hg => (by exact Ev.indexAddr1 (el_run rfl) (size_run rfl) (by exact gvE hg rfl) (by exact gvE hg rfl) rfl (by omega))) ?_
      refine OPS.gval rfl rfl rfl rfl rfl (fun hg => Ev.load1 (agg_run rfl) (by exact gvE hg rfl) (by exact H.ld0 (by assumption))) ?_
      refine OPS.gval rfl rfl rfl rfl rfl (fun hg => Ev.mvS (by rfl)) ?_
      refine OPS.gval rfl rfl rfl rfl rfl (fun hg => Ev.mvI (by rfl)) ?_
      refine OPS.gval rfl rfl rfl rfl rfl (fun hg => (by exact Ev.indexAddr1 (el_run rfl) (size_run rfl) (by exact gvE hg rfl) (by exact gvE hg rfl) rfl (by omega))) ?_
      refine OPS.gval rfl rfl rfl rfl rfl (fun hg => Ev.load1 (agg_run rfl) (by exact gvE hg rfl) (by exact H.ld0 (by assumption))) ?_
      refine OPS.gval rfl rfl rfl rfl rfl (fun hg => Ev.neq (by exact gvE hg rfl) (by exact gvE hg rfl)) ?_
      refine OPS.val rfl rfl rfl ((by exact Ev.pickAnd rfl rfl rfl)) ?_
      refine OPS.val rfl rfl rfl (Ev.asB rfl) ?_
      refine OPS.nil_s ?_
      refine WP.region ?_
      refine OPS.val rfl rfl rfl (Ev.mvI rfl) ?_
      refine OPS.val rfl rfl rfl (Ev.add rfl rfl (by unfold fits; omega)) ?_
      refine OPS.val rfl rfl rfl (Ev.asI rfl) ?_
      refine OPS.nil ?_
      exact ⟨(by repeat (first | exact Agree.refl _ _ | exact Agree.mix _ _ _ | refine Agree.upd rfl ?_ | refine Agree.mix2 rfl ?_)), k10 - 1, by omega, q + 1, by omega, rfl, (by
        rw [htk3]
        show Value.bool (decide (a[i] ∈ b ∧ a[i] ∉ a.take q) && !decide (a[q] = a[i])) = _
        congr 1
        rw [Bool.eq_iff_iff]
        simp only [Bool.and_eq_true, decide_eq_true_eq, Bool.not_eq_true', decide_eq_false_iff_not, List.mem_append, List.mem_singleton, not_or]
        constructor
        · rintro ⟨⟨h1, h2⟩, h3⟩; exact ⟨h1, h2, fun h => h3 h.symm⟩
        · rintro ⟨h1, h2, h3⟩; exact ⟨⟨h1, h2⟩, fun h => h3 h.symm⟩), H⟩
    have hq : q = i := by simp at hc10; omega
    subst hq
    refine WP.exit ?_
    refine XB.hit ?_
    refine WP.seq ?_
    refine WP.region ?_
    refine OPS.val rfl rfl rfl (Ev.mvB rfl) ?_
    refine OPS.val rfl rfl rfl (Ev.not rfl) ?_
    refine OPS.nil ?_
    refine WP.cond rfl (fun hc13 => ?_) (fun hc13 => ?_)
    · refine WP.seq ?_
      refine WP.region ?_
      refine OPS.val rfl rfl rfl (Ev.asB rfl) ?_
      refine OPS.nil ?_
      refine WP.ret ⟨_, rfl, ?_⟩
      have hno : ¬ (a[q] ∈ b ∧ a[q] ∉ a.take q) := fun h => by
        rw [decide_eq_true h] at hc13; cases hc13
      refine ⟨ret_b rfl (decide_eq_false ?_).symm, H.below⟩
      rintro ⟨h1, h2⟩
      refine hno ⟨h2 _ (List.getElem_mem hlt), fun hm => ?_⟩
      have h3 := h1.sublist (List.take_sublist (q + 1) a)
      rw [htk, List.nodup_append] at h3
      exact h3.2.2 _ hm _ (by simp) rfl
    have hyes : a[q] ∈ b ∧ a[q] ∉ a.take q := by simpa using hc13
    refine WP.skip ?_
    refine WP.region ?_
    refine OPS.val rfl rfl rfl (Ev.mvI rfl) ?_
    refine OPS.val rfl rfl rfl (Ev.add rfl rfl (by unfold fits; omega)) ?_
    refine OPS.val rfl rfl rfl (Ev.asI rfl) ?_
    refine OPS.nil ?_
    exact ⟨(by repeat (first | exact Agree.refl _ _ | exact Agree.mix _ _ _ | refine Agree.upd rfl ?_ | refine Agree.mix2 rfl ?_)), k - 1, by omega, q + 1, by omega, rfl, (by
      rw [htk, List.nodup_append]
      exact ⟨hnd, by simp, fun x hx y hy he => by simp at hy; subst hy he; exact hyes.2 hx⟩), (fun x hx => by
      rw [htk, List.mem_append, List.mem_singleton] at hx
      rcases hx with hx | rfl
      · exact hall x hx
      · exact hyes.1), H⟩
  refine WP.exit ?_
  refine XB.hit ?_
  refine WP.seq ?_
  refine WP.region ?_
  refine OPS.val rfl rfl rfl (Ev.asB rfl) ?_
  refine OPS.nil ?_
  refine WP.ret ⟨_, rfl, ?_⟩
  have hi : i = a.length := by simp at hc2; omega
  rw [hi, List.take_length] at hnd hall
  exact ⟨ret_b rfl (decide_eq_true ⟨hnd, hall⟩).symm, H.below⟩
def fewL (ll tl nl rl : Nat) : Bool := fewB ll tl nl && decide (rl ≤ 10)
theorem lawFew (n hd rt : Int) (A B C R : Option Addr) (ll tl nl rl ca cb cc cr : Nat) (w0 : World) :
    Calls Try.prog 9 #[.agg #[I n, .slice A ll ca, .slice B tl cb, .slice C nl cc, I hd], .agg #[I rt, .slice R rl cr]] w0 fun e w' => e = .returned (.bool (fewL ll tl nl rl)) ∧ Below w0.heap.size w0 w' := by
  have H := SH.refl w0
  refine Calls.ofWP Try.func9 rfl Try.results9 Try.ntmps9 rfl ?_
  refine WP.seq ?_
  refine WP.region ?_
  refine OPS.box rfl rfl rfl rfl (cA rfl) H ?_
  clear H; intro g2 w H
  refine OPS.box rfl rfl rfl rfl (cA rfl) H ?_
  clear H; intro g3 w H
  refine OPS.val rfl rfl rfl (Ev.asB rfl) ?_
  refine OPS.nil ?_
  refine WP.seq ?_
  refine WP.region ?_
  refine OPS.val rfl rfl rfl ((by exact Ev.loadO 1 H rfl (agg_run rfl) (size_run rfl) (by rfl) rfl)) ?_
  refine OPS.call (d := some 6) rfl rfl rfl (EvC.func (fun_run rfl)) (r42Few n hd A B C ll tl nl ca cb cc w) ?_
  rintro _ w ⟨rfl, hb⟩
  refine ⟨_, rfl, ?_⟩
  replace H := H.toBelow hb; clear hb
  refine OPS.val rfl rfl rfl (Ev.mvB rfl) ?_
  refine OPS.gval rfl rfl rfl rfl rfl (fun hg => Ev.fieldAddr (fld_run rfl) (by rfl)) ?_
  refine OPS.gval rfl rfl rfl rfl rfl (fun hg => Ev.load1 (agg_run rfl) (by exact gvE hg rfl) (by exact H.ldL 0 rfl _ rfl)) ?_
  refine OPS.gval rfl rfl rfl rfl rfl (fun hg => Ev.len (el_run rfl) (by exact gvE hg rfl)) ?_
  refine OPS.gval rfl rfl rfl rfl rfl (fun hg => Ev.leq (by exact gvE hg rfl) (by rfl)) ?_
  refine OPS.val rfl rfl rfl ((by exact Ev.pickAnd rfl rfl rfl)) ?_
  refine OPS.val rfl rfl rfl (Ev.asB rfl) ?_
  refine OPS.nil ?_
  refine WP.ret ⟨_, rfl, ?_⟩
  have h1 : decide ((rl : Int) ≤ 10) = decide (rl ≤ 10) := decide_eq_decide.2 (by omega)
  exact ⟨by unfold fewL; rw [← h1]; rfl, H.below⟩
theorem lawEdge (a b c : Int) (w0 : World) : Calls Try.prog 34 #[I a, I b, I c] w0 fun e w' => e = .returned (.agg #[I a, I b, I c]) ∧ Below w0.heap.size w0 w' := by
  have H := SH.refl w0
  refine Calls.ofWPc Try.func34 rfl Try.results34 Try.ntmps34 rfl ?_
  refine WP.seq ?_
  refine WP.region ?_
  refine OPS.alloc rfl rfl rfl rfl (zero_run rfl) rfl H ?_
  clear H; intro g6 w H
  refine OPS.nil ?_
  refine WP.seq ?_
  refine WP.region ?_
  refine OPS.val rfl rfl rfl (Ev.mvI rfl) ?_
  refine OPS.val rfl rfl rfl (Ev.mvI rfl) ?_
  refine OPS.val rfl rfl rfl (Ev.mvI rfl) ?_
  refine OPS.val rfl rfl rfl (Ev.build (bld_72_0_1_2 rfl rfl rfl)) ?_
  refine OPS.store 0 _ rfl rfl rfl (size_run rfl) rfl (cA rfl) rfl rfl H rfl (by simp) ?_
  clear H; intro w H; try simp only [List.set_cons_zero, List.set_cons_succ, putL, Nat.zero_add] at H
  refine OPS.nil ?_
  refine WP.ret ⟨[_], ⟨(by exact resCellA 0 H rfl (agg_run rfl) (size_run rfl) (by rfl) rfl), trivial⟩, ?_⟩
  exact ⟨rfl, H.below⟩
def nightX (a b c : Nat) : List Value := [I 3, .slice (some ⟨a, 0, none⟩) xL.length 5, .slice (some ⟨b, 0, none⟩) xT.length 1, .slice (some ⟨c, 0, none⟩) xN.length 2, I 1]
theorem lawShort (w0 : World) : Calls Try.prog 22 #[] w0 fun e w' => ∃ a b c : Nat, e = .returned (.agg (nightX a b c).toArray) ∧ SH w0 [] w' [⟨a, 72, xL.flatMap edgCells⟩, ⟨b, 54, xT.flatMap truckCells⟩, ⟨c, 64, xN.flatMap needCells⟩] := by
  have H := SH.refl w0
  refine Calls.ofWPc Try.func22 rfl Try.results22 Try.ntmps22 rfl ?_
  refine WP.seq ?_
  refine WP.region ?_
  refine OPS.alloc rfl rfl rfl rfl (zero_run rfl) rfl H ?_
  clear H; intro g0 w H
  refine OPS.nil ?_
  refine WP.seq ?_
  refine WP.region ?_
  refine OPS.call (d := some 1) rfl rfl rfl (EvC.func (fun_run rfl)) (lawEdge 0 1 10 _) ?_
  rintro _ w ⟨rfl, hb⟩
  refine ⟨_, rfl, ?_⟩
  replace H := H.toBelow hb; clear hb
  refine OPS.call (d := some 2) rfl rfl rfl (EvC.func (fun_run rfl)) (lawEdge 1 0 10 _) ?_
  rintro _ w ⟨rfl, hb⟩
  refine ⟨_, rfl, ?_⟩
  replace H := H.toBelow hb; clear hb
  refine OPS.call (d := some 3) rfl rfl rfl (EvC.func (fun_run rfl)) (lawEdge 1 2 10 _) ?_
  rintro _ w ⟨rfl, hb⟩
  refine ⟨_, rfl, ?_⟩
  replace H := H.toBelow hb; clear hb
  refine OPS.call (d := some 4) rfl rfl rfl (EvC.func (fun_run rfl)) (lawEdge 2 1 10 _) ?_
  rintro _ w ⟨rfl, hb⟩
  refine ⟨_, rfl, ?_⟩
  replace H := H.toBelow hb; clear hb
  refine OPS.call (d := some 5) rfl rfl rfl (EvC.func (fun_run rfl)) (lawEdge 2 0 30 _) ?_
  rintro _ w ⟨rfl, hb⟩
  refine ⟨_, rfl, ?_⟩
  replace H := H.toBelow hb; clear hb
  refine OPS.buildSlice rfl rfl rfl rfl (bsl_22_5_0_1_2_3_4 rfl rfl rfl rfl rfl) H ?_
  clear H; intro g6 w H
  refine OPS.val rfl rfl rfl (Ev.build (bld_24_0_1 rfl rfl)) ?_
  refine OPS.val rfl rfl rfl (Ev.build (bld_52_1 rfl)) ?_
  refine OPS.val rfl rfl rfl (Ev.build (bld_54_1_2 rfl rfl)) ?_
  refine OPS.buildSlice rfl rfl rfl rfl (bsl_25_1_0 rfl) H ?_
  clear H; intro g10 w H
  refine OPS.val rfl rfl rfl (Ev.build (bld_64_0_1 rfl rfl)) ?_
  refine OPS.val rfl rfl rfl (Ev.build (bld_64_0_1 rfl rfl)) ?_
  refine OPS.buildSlice rfl rfl rfl rfl (bsl_26_2_0_1 rfl rfl) H ?_
  clear H; intro g13 w H
  refine OPS.val rfl rfl rfl (Ev.build (bld_28_0_1_2_3 rfl rfl rfl rfl)) ?_
  refine OPS.store 3 _ rfl rfl rfl (size_run rfl) rfl (cA rfl) rfl rfl H rfl (by simp) ?_
  clear H; intro w H; try simp only [List.set_cons_zero, List.set_cons_succ, putL, Nat.zero_add] at H
  refine OPS.nil ?_
  refine WP.ret ⟨[_], ⟨(by exact resCellA 3 H rfl (agg_run rfl) (size_run rfl) (by rfl) rfl), trivial⟩, ?_⟩
  exact ⟨g6, g10, g13, rfl, H.reidx [2, 1, 0] (by decide) rfl⟩
end Go.Proofs.Ytfddebpeiilohaa
