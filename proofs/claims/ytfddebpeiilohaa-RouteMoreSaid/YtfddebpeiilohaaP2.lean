/-
  Walks: before, Same, each, few, the example's night.
-/
import Derived.Test.YtfddebpeiilohaaK7
set_option linter.all false
namespace Go.Proofs.Ytfddebpeiilohaa
open Go Go.W Go.RowKit

theorem ret_b {v : Value} {b c : Bool} (h : v = .bool b) (hb : b = c) : Ending.returned v = .returned (.bool c) := by rw [h, hb]
theorem lexB_drop {a b : List Int} : ∀ {j : Nat}, j ≤ a.length → j ≤ b.length → (∀ i (h : i < a.length) (h2 : i < b.length), i < j → a[i] = b[i]) → lexB a b = lexB (a.drop j) (b.drop j)
  | 0, _, _, _ => by simp
  | j + 1, h1, h2, h => by
    rw [lexB_drop (j := j) (by omega) (by omega) (fun i q1 q2 q3 => h i q1 q2 (by omega)), List.drop_eq_getElem_cons (show j < a.length by omega), List.drop_eq_getElem_cons (show j < b.length by omega), h j (by omega) (by omega) (by omega), lexB_head]
theorem rBefore0 (A B : Option Addr) (a b : List Int) (c1 c2 : Nat) (w0 : World) (ha : IntsAt w0 A a) (hb : IntsAt w0 B b) (hl : a.length ≤ 1000) (hl2 : b.length ≤ 1000) :
    Calls Try.prog 33 #[.slice A a.length c1, .slice B b.length c2] w0 fun e w' => e = .returned (.bool (lexB a b)) ∧ Below w0.heap.size w0 w' := by
  have H := SH.refl w0
  refine Calls.ofWP Try.func33 rfl Try.results33 Try.ntmps33 rfl ?_
  refine WP.seq ?_
  refine WP.region ?_
  refine OPS.val rfl rfl rfl (Ev.asB rfl) ?_
  refine OPS.nil ?_
  refine WP.seq ?_
  refine WP.seq ?_
  refine WP.region ?_
  refine OPS.val rfl rfl rfl (Ev.asI rfl) ?_
  refine OPS.nil ?_
  refine WP.block ?_
  refine WP.loop [4, 5, 6, 7, 8, 9, 10, 11, 12, 13, 14, 15, 16, 17, 18, 19, 20, 21, 22, 23, 24, 25, 26, 27, 28, 29, 30, 31, 32, 33, 34, 35] (fun k e w' => ∃ (j : Nat), j + k = a.length ∧ e 5 = I j ∧ j ≤ b.length ∧ (∀ i (h : i < a.length) (h2 : i < b.length), i < j → a[i] = b[i]) ∧ SH w0 [] w' []) (a.length) (⟨0, by omega, rfl, by omega, fun _ _ _ _ => by omega, H⟩) ?_
  clear H
  rintro k u w ⟨j, hk, h5, hjb, hall, H⟩
  refine WP.know (t := 5) h5 ?_
  refine WP.seq ?_
  refine WP.seq ?_
  refine WP.region ?_
  refine OPS.val rfl rfl rfl (Ev.mvI rfl) ?_
  refine OPS.val rfl rfl rfl (Ev.mvS rfl) ?_
  refine OPS.val rfl rfl rfl (Ev.len (el_run rfl) rfl) ?_
  refine OPS.val rfl rfl rfl (Ev.lss rfl rfl) ?_
  refine OPS.val rfl rfl rfl (Ev.mvB rfl) ?_
  refine OPS.gval rfl rfl rfl rfl rfl (fun hg => Ev.mvI (by rfl)) ?_
  refine OPS.gval rfl rfl rfl rfl rfl (fun hg => Ev.mvS (by rfl)) ?_
  refine OPS.gval rfl rfl rfl rfl rfl (fun hg => Ev.len (el_run rfl) (by exact gvE hg rfl)) ?_
  refine OPS.gval rfl rfl rfl rfl rfl (fun hg => Ev.lss (by exact gvE hg rfl) (by exact gvE hg rfl)) ?_
  refine OPS.val rfl rfl rfl ((by exact Ev.pickAnd rfl rfl rfl)) ?_
  refine OPS.nil ?_
  refine WP.cond rfl (fun hc2 => ?_) (fun hc2 => ?_)
  · have hlt : j < a.length ∧ j < b.length := by simpa using hc2
    obtain ⟨hlt, hlt2⟩ := hlt
    obtain ⟨b1, o1, rfl, hx⟩ := ha j hlt
    obtain ⟨b2, o2, rfl, hy⟩ := hb j hlt2
    have hd : lexB a b = (if a[j] < b[j] then true else if b[j] < a[j] then false else lexB (a.drop (j + 1)) (b.drop (j + 1))) := by rw [lexB_drop (j := j) (by omega) (by omega) hall, List.drop_eq_getElem_cons hlt, List.drop_eq_getElem_cons hlt2, lexB]
    refine WP.skip ?_
    refine WP.seq ?_
    refine WP.block ?_
    refine WP.seq ?_
    refine WP.rstill mixed (by kernel_rfl) H ?_
    clear H; intro w hbw4 H
    refine OPS.val rfl rfl rfl (Ev.mvS rfl) ?_
    refine OPS.val rfl rfl rfl (Ev.mvI rfl) ?_
    refine OPS.val rfl rfl rfl ((by exact Ev.indexAddr1 (el_run rfl) (size_run rfl) rfl rfl rfl (by omega))) ?_
    refine OPS.val rfl rfl rfl (Ev.load1 (agg_run rfl) rfl (by exact H.ld0 (by assumption))) ?_
    refine OPS.val rfl rfl rfl (Ev.mvS rfl) ?_
    refine OPS.val rfl rfl rfl (Ev.mvI rfl) ?_
    refine OPS.val rfl rfl rfl ((by exact Ev.indexAddr1 (el_run rfl) (size_run rfl) rfl rfl rfl (by omega))) ?_
    refine OPS.val rfl rfl rfl (Ev.load1 (agg_run rfl) rfl (by exact H.ld0 (by assumption))) ?_
    refine OPS.val rfl rfl rfl (Ev.neq rfl rfl) ?_
    refine OPS.nil_s ?_
    refine WP.cond rfl (fun hc4 => ?_) (fun hc4 => ?_)
    · refine WP.seq ?_
      refine WP.rstill mixed (by kernel_rfl) H ?_
      clear H; intro w hbw5 H
      refine OPS.val rfl rfl rfl (Ev.mvS rfl) ?_
      refine OPS.val rfl rfl rfl (Ev.mvI rfl) ?_
      refine OPS.val rfl rfl rfl ((by exact Ev.indexAddr1 (el_run rfl) (size_run rfl) rfl rfl rfl (by omega))) ?_
      refine OPS.val rfl rfl rfl (Ev.load1 (agg_run rfl) rfl (by exact H.ld0 (by assumption))) ?_
      refine OPS.val rfl rfl rfl (Ev.mvS rfl) ?_
      refine OPS.val rfl rfl rfl (Ev.mvI rfl) ?_
      refine OPS.val rfl rfl rfl ((by exact Ev.indexAddr1 (el_run rfl) (size_run rfl) rfl rfl rfl (by omega))) ?_
      refine OPS.val rfl rfl rfl (Ev.load1 (agg_run rfl) rfl (by exact H.ld0 (by assumption))) ?_
      refine OPS.val rfl rfl rfl (Ev.lss rfl rfl) ?_
      refine OPS.val rfl rfl rfl (Ev.asB rfl) ?_
      refine OPS.nil_s ?_
      refine WP.ret ⟨_, rfl, ?_⟩
      have hne : a[j] ≠ b[j] := by simpa using hc4
      have hv : lexB a b = decide (a[j] < b[j]) := by
        rw [hd]
        by_cases h : a[j] < b[j]
        · rw [if_pos h, decide_eq_true h]
        · rw [if_neg h, if_pos (by omega), decide_eq_false h]
      exact ⟨by rw [hv]; rfl, H.below⟩
    have heq : a[j] = b[j] := by simpa using hc4
    refine WP.skip ?_
    refine WP.region ?_
    refine OPS.val rfl rfl rfl (Ev.mvI rfl) ?_
    refine OPS.val rfl rfl rfl (Ev.add rfl rfl (by unfold fits; omega)) ?_
    refine OPS.val rfl rfl rfl (Ev.asI rfl) ?_
    refine OPS.nil ?_
    exact ⟨(by repeat (first | exact Agree.refl _ _ | exact Agree.mix _ _ _ | refine Agree.upd rfl ?_ | refine Agree.mix2 rfl ?_)), k - 1, by omega, j + 1, by omega, rfl, by omega, (fun i h1 h2 h3 => by
      rcases Nat.lt_or_eq_of_le (Nat.le_of_lt_succ h3) with h | rfl
      · exact hall i h1 h2 h
      · exact heq), H⟩
  refine WP.exit ?_
  refine XB.hit ?_
  refine WP.seq ?_
  refine WP.region ?_
  refine OPS.val rfl rfl rfl (Ev.mvS rfl) ?_
  refine OPS.val rfl rfl rfl (Ev.len (el_run rfl) rfl) ?_
  refine OPS.val rfl rfl rfl (Ev.mvS rfl) ?_
  refine OPS.val rfl rfl rfl (Ev.len (el_run rfl) rfl) ?_
  refine OPS.val rfl rfl rfl (Ev.lss rfl rfl) ?_
  refine OPS.val rfl rfl rfl (Ev.asB rfl) ?_
  refine OPS.nil ?_
  refine WP.ret ⟨_, rfl, ?_⟩
  have hge : ¬ (j < a.length ∧ j < b.length) := by simpa using hc2
  have hv : lexB a b = decide (a.length < b.length) := by
    rw [lexB_drop (j := j) (by omega) (by omega) hall]
    by_cases h : j = a.length
    · subst h
      rw [List.drop_length]
      by_cases h2 : a.length < b.length
      · rw [List.drop_eq_getElem_cons h2, decide_eq_true h2]; rfl
      · rw [List.drop_eq_nil_of_le (show b.length ≤ a.length by omega), decide_eq_false h2]; rfl
    · rw [List.drop_eq_getElem_cons (show j < a.length by omega), List.drop_eq_nil_of_le (show b.length ≤ j by omega), decide_eq_false (by omega)]; rfl
  have e1 : decide ((a.length : Int) < b.length) = decide (a.length < b.length) := decide_eq_decide.2 (by omega)
  exact ⟨by rw [hv, ← e1]; rfl, H.below⟩
theorem rBefore (A B : Option Addr) (a b : List Int) (c1 c2 : Nat) (w0 : World) (ha : IntsAt w0 A a) (hb : IntsAt w0 B b) (hl : a.length ≤ 1000) (hl2 : b.length ≤ 1000) :
    Calls Try.prog 20 #[.slice A a.length c1, .slice B b.length c2] w0 fun e w' => e = .returned (.bool (lexB a b)) ∧ Below w0.heap.size w0 w' := by
  have H := SH.refl w0
  refine Calls.ofWP Try.func20 rfl Try.results20 Try.ntmps20 rfl ?_
  refine WP.seq ?_
  refine WP.region ?_
  refine OPS.val rfl rfl rfl (Ev.asB rfl) ?_
  refine OPS.nil ?_
  refine WP.seq ?_
  refine WP.region ?_
  refine OPS.val rfl rfl rfl (Ev.mvS rfl) ?_
  refine OPS.val rfl rfl rfl (Ev.mvS rfl) ?_
  refine OPS.call (d := some 7) rfl rfl rfl (EvC.func (fun_run rfl)) (rBefore0 A B a b c1 c2 w0 ha hb hl hl2) ?_
  rintro _ w ⟨rfl, hb⟩
  refine ⟨_, rfl, ?_⟩
  replace H := H.toBelow hb; clear hb
  refine OPS.val rfl rfl rfl (Ev.asB rfl) ?_
  refine OPS.nil ?_
  refine WP.ret ⟨_, rfl, ?_⟩
  exact ⟨rfl, H.below⟩
set_option maxHeartbeats 1000000 in
theorem rSame (p q : Int) (A B : Option Addr) (a b : List Int) (c1 c2 : Nat) (w0 : World) (ha : IntsAt w0 A a) (hb : IntsAt w0 B b) (hl : a.length ≤ 1000) (hl2 : b.length ≤ 1000) :
    Calls Try.prog 13 #[.agg #[I p, .slice A a.length c1], .agg #[I q, .slice B b.length c2]] w0 fun e w' => e = .returned (.bool (decide (p = q ∧ a = b))) ∧ Below w0.heap.size w0 w' := by
  have H := SH.refl w0
  refine Calls.ofWP Try.func13 rfl Try.results13 Try.ntmps13 rfl ?_
  refine WP.seq ?_
  refine WP.region ?_
  refine OPS.box rfl rfl rfl rfl (cA rfl) H ?_
  clear H; intro g2 w H
  refine OPS.box rfl rfl rfl rfl (cA rfl) H ?_
  clear H; intro g3 w H
  refine OPS.val rfl rfl rfl (Ev.asB rfl) ?_
  refine OPS.nil ?_
  refine WP.seq ?_
  refine WP.seq ?_
  refine WP.region ?_
  refine OPS.val rfl rfl rfl (Ev.fieldAddr (fld_run rfl) rfl) ?_
  refine OPS.val rfl rfl rfl (Ev.load1 (agg_run rfl) rfl (by exact H.ldL 1 rfl _ rfl)) ?_
  refine OPS.val rfl rfl rfl (Ev.fieldAddr (fld_run rfl) rfl) ?_
  refine OPS.val rfl rfl rfl (Ev.load1 (agg_run rfl) rfl (by exact H.ldL 0 rfl _ rfl)) ?_
  refine OPS.val rfl rfl rfl (Ev.neq rfl rfl) ?_
  refine OPS.val rfl rfl rfl (Ev.mvB rfl) ?_
  refine OPS.gval rfl rfl rfl rfl rfl (fun hg => Ev.fieldAddr (fld_run rfl) (by rfl)) ?_
  refine OPS.gval rfl rfl rfl rfl rfl (fun hg => Ev.load1 (agg_run rfl) (by exact gvE hg rfl) (by exact H.ldL 1 rfl _ rfl)) ?_
  refine OPS.gval rfl rfl rfl rfl rfl (fun hg => Ev.len (el_run rfl) (by exact gvE hg rfl)) ?_
  refine OPS.gval rfl rfl rfl rfl rfl (fun hg => Ev.fieldAddr (fld_run rfl) (by rfl)) ?_
  refine OPS.gval rfl rfl rfl rfl rfl (fun hg => Ev.load1 (agg_run rfl) (by exact gvE hg rfl) (by exact H.ldL 0 rfl _ rfl)) ?_
  refine OPS.gval rfl rfl rfl rfl rfl (fun hg => Ev.len (el_run rfl) (by exact gvE hg rfl)) ?_
  refine OPS.gval rfl rfl rfl rfl rfl (fun hg => Ev.neq (by exact gvE hg rfl) (by exact gvE hg rfl)) ?_
  refine OPS.val rfl rfl rfl ((by exact Ev.pickOr rfl rfl rfl)) ?_
  refine OPS.nil ?_
  refine WP.cond rfl (fun hc1 => ?_) (fun hc1 => ?_)
  · refine WP.seq ?_
    refine WP.region ?_
    refine OPS.val rfl rfl rfl (Ev.asB rfl) ?_
    refine OPS.nil ?_
    refine WP.ret ⟨_, rfl, ?_⟩
    have h : ¬ (p = q ∧ a = b) := by
      rintro ⟨h1, h2⟩
      subst h1 h2
      simp at hc1
    exact ⟨ret_b rfl (decide_eq_false h).symm, H.below⟩
  have h : p = q ∧ a.length = b.length := by simp at hc1; omega
  obtain ⟨hpq, hab⟩ := h
  refine WP.skip ?_
  refine WP.seq ?_
  refine WP.seq ?_
  refine WP.region ?_
  refine OPS.val rfl rfl rfl (Ev.asI rfl) ?_
  refine OPS.nil ?_
  refine WP.block ?_
  refine WP.loop [4, 5, 20, 21, 22, 23, 24, 25, 26, 27, 28, 29, 30, 31, 32, 33, 34, 35, 36, 37] (fun k e w' => ∃ (j : Nat), j + k = a.length ∧ e 5 = I j ∧ (∀ i (h1 : i < a.length) (h2 : i < b.length), i < j → a[i] = b[i]) ∧ SH w0 [] w' [⟨g3, 34, [I q, .slice B b.length c2]⟩, ⟨g2, 34, [I p, .slice A a.length c1]⟩]) (a.length) (⟨0, by omega, rfl, fun _ _ _ h => absurd h (by omega), H⟩) ?_
  clear H
  rintro k u w ⟨j, hk, h5, hall, H⟩
  refine WP.know (t := 5) h5 ?_
  refine WP.seq ?_
  refine WP.seq ?_
  refine WP.region ?_
  refine OPS.val rfl rfl rfl (Ev.mvI rfl) ?_
  refine OPS.val rfl rfl rfl (Ev.fieldAddr (fld_run rfl) rfl) ?_
  refine OPS.val rfl rfl rfl (Ev.load1 (agg_run rfl) rfl (by exact H.ldL 1 rfl _ rfl)) ?_
  refine OPS.val rfl rfl rfl (Ev.len (el_run rfl) rfl) ?_
  refine OPS.val rfl rfl rfl (Ev.lss rfl rfl) ?_
  refine OPS.nil ?_
  refine WP.cond rfl (fun hc4 => ?_) (fun hc4 => ?_)
  · have hlt : j < a.length := by simpa using hc4
    have hlt2 : j < b.length := by omega
    obtain ⟨b1, o1, rfl, hx⟩ := ha j hlt
    obtain ⟨b2, o2, rfl, hy⟩ := hb j hlt2
    refine WP.skip ?_
    refine WP.seq ?_
    refine WP.block ?_
    refine WP.seq ?_
    refine WP.rstill mixed (by kernel_rfl) H ?_
    clear H; intro w hbw6 H
    refine OPS.val rfl rfl rfl (Ev.fieldAddr (fld_run rfl) rfl) ?_
    refine OPS.val rfl rfl rfl (Ev.load1 (agg_run rfl) rfl (by exact H.ldL 1 rfl _ rfl)) ?_
    refine OPS.val rfl rfl rfl (Ev.mvI rfl) ?_
    refine OPS.val rfl rfl rfl ((by exact Ev.indexAddr1 (el_run rfl) (size_run rfl) rfl rfl rfl (by omega))) ?_
    refine OPS.val rfl rfl rfl (Ev.load1 (agg_run rfl) rfl (by exact H.ld0 (by assumption))) ?_
    refine OPS.val rfl rfl rfl (Ev.fieldAddr (fld_run rfl) rfl) ?_
    refine OPS.val rfl rfl rfl (Ev.load1 (agg_run rfl) rfl (by exact H.ldL 0 rfl _ rfl)) ?_
    refine OPS.val rfl rfl rfl (Ev.mvI rfl) ?_
    refine OPS.val rfl rfl rfl ((by exact Ev.indexAddr1 (el_run rfl) (size_run rfl) rfl rfl rfl (by omega))) ?_
    refine OPS.val rfl rfl rfl (Ev.load1 (agg_run rfl) rfl (by exact H.ld0 (by assumption))) ?_
    refine OPS.val rfl rfl rfl (Ev.neq rfl rfl) ?_
    refine OPS.nil_s ?_
    refine WP.cond rfl (fun hc6 => ?_) (fun hc6 => ?_)
    · refine WP.seq ?_
      refine WP.region ?_
      refine OPS.val rfl rfl rfl (Ev.asB rfl) ?_
      refine OPS.nil ?_
      refine WP.ret ⟨_, rfl, ?_⟩
      have hne : a[j] ≠ b[j] := by simpa using hc6
      exact ⟨ret_b rfl (decide_eq_false (fun e => hne (by simp only [e.2]))).symm, H.below⟩
    have heq : a[j] = b[j] := by simpa using hc6
    refine WP.skip ?_
    refine WP.region ?_
    refine OPS.val rfl rfl rfl (Ev.mvI rfl) ?_
    refine OPS.val rfl rfl rfl (Ev.add rfl rfl (by unfold fits; omega)) ?_
    refine OPS.val rfl rfl rfl (Ev.asI rfl) ?_
    refine OPS.nil ?_
    exact ⟨(by repeat (first | exact Agree.refl _ _ | exact Agree.mix _ _ _ | refine Agree.upd rfl ?_ | refine Agree.mix2 rfl ?_)), k - 1, by omega, j + 1, by omega, rfl, (fun i h1 h2 h3 => by
      rcases Nat.lt_or_eq_of_le (Nat.le_of_lt_succ h3) with h | rfl
      · exact hall i h1 h2 h
      · exact heq), H⟩
  refine WP.exit ?_
  refine XB.hit ?_
  refine WP.seq ?_
  refine WP.region ?_
  refine OPS.val rfl rfl rfl (Ev.asB rfl) ?_
  refine OPS.nil ?_
  refine WP.ret ⟨_, rfl, ?_⟩
  have hj : j = a.length := by simp at hc4; omega
  exact ⟨ret_b rfl (decide_eq_true ⟨hpq, List.ext_getElem hab fun i h1 h2 => hall i h1 h2 (by omega)⟩).symm, H.below⟩
def eachB (a b : List Int) : Bool := decide (a.Nodup ∧ ∀ x ∈ a, x ∈ b)
set_option maxHeartbeats 2000000 in
theorem lawEach (A B : Option Addr) (a b : List Int) (c1 c2 : Nat) (w0 : World) (ha : IntsAt w0 A a) (hb : IntsAt w0 B b) (hl : a.length ≤ 1000) (hl2 : b.length ≤ 1000) :
    Calls Try.prog 18 #[.slice A a.length c1, .slice B b.length c2] w0 fun e w' => e = .returned (.bool (eachB a b)) ∧ Below w0.heap.size w0 w' := by
  have H := SH.refl w0
  refine Calls.ofWP Try.func18 rfl Try.results18 Try.ntmps18 rfl ?_
  refine WP.seq ?_
  refine WP.region ?_
  refine OPS.val rfl rfl rfl (Ev.asB rfl) ?_
  refine OPS.nil ?_
  refine WP.seq ?_
  refine WP.seq ?_
  refine WP.region ?_
  refine OPS.val rfl rfl rfl (Ev.asI rfl) ?_
  refine OPS.nil ?_
  refine WP.block ?_
  refine WP.loop [4, 5, 6, 7, 8, 9, 10, 11, 12, 13, 14, 15, 16, 17, 18, 19, 20, 21, 22, 23, 24, 25, 26, 27, 28, 29, 30, 31, 32, 33, 34, 35, 36, 37, 38, 39, 40, 41, 42, 43, 44, 45, 46, 47, 48, 49, 50, 51] (fun k e w' => ∃ (i : Nat), i + k = a.length ∧ e 5 = I i ∧ (a.take i).Nodup ∧ (∀ x ∈ a.take i, x ∈ b) ∧ SH w0 [] w' []) (a.length) (⟨0, by omega, rfl, by simp, by simp, H⟩) ?_
  clear H
  rintro k u w ⟨i, hk, h5, hnd, hall, H⟩
  refine WP.know (t := 5) h5 ?_
  refine WP.seq ?_
  refine WP.seq ?_
  refine WP.region ?_
  refine OPS.val rfl rfl rfl (Ev.mvI rfl) ?_
  refine OPS.val rfl rfl rfl (Ev.mvS rfl) ?_
  refine OPS.val rfl rfl rfl (Ev.len (el_run rfl) rfl) ?_
  refine OPS.val rfl rfl rfl (Ev.lss rfl rfl) ?_
  refine OPS.nil ?_
  refine WP.cond rfl (fun hc2 => ?_) (fun hc2 => ?_)
  · have hlt : i < a.length := by simpa using hc2
    obtain ⟨b1, o1, rfl, hx⟩ := ha i hlt
    have htk := List.take_succ_eq_append_getElem hlt
    refine WP.skip ?_
    refine WP.seq ?_
    refine WP.block ?_
    refine WP.seq ?_
    refine WP.region ?_
    refine OPS.val rfl rfl rfl (Ev.asB rfl) ?_
    refine OPS.nil ?_
    refine WP.seq ?_
    refine WP.seq ?_
    refine WP.region ?_
    refine OPS.val rfl rfl rfl (Ev.asI rfl) ?_
    refine OPS.nil ?_
    refine WP.block ?_
    refine WP.loop [6, 7, 15, 16, 17, 18, 19, 20, 21, 22, 23, 24, 25, 26, 27, 28, 29, 30, 31, 32] (fun k e w' => ∃ (j : Nat), j + k = b.length ∧ e 7 = I j ∧ e 6 = .bool (decide (a[i] ∈ b.take j)) ∧ SH w0 [] w' []) (b.length) (⟨0, by omega, rfl, by show Value.bool false = _; simp, H⟩) ?_
    clear H
    rintro k6 u6 w ⟨j, hk6, h7, h6, H⟩
    refine WP.know (t := 7) h7 (WP.know (t := 6) h6 ?_)
    refine WP.seq ?_
    refine WP.seq ?_
    refine WP.region ?_
    refine OPS.val rfl rfl rfl (Ev.mvI rfl) ?_
    refine OPS.val rfl rfl rfl (Ev.mvS rfl) ?_
    refine OPS.val rfl rfl rfl (Ev.len (el_run rfl) rfl) ?_
    refine OPS.val rfl rfl rfl (Ev.lss rfl rfl) ?_
    refine OPS.nil ?_
    refine WP.cond rfl (fun hc6 => ?_) (fun hc6 => ?_)
    · have hlt2 : j < b.length := by simpa using hc6
      obtain ⟨b2, o2, rfl, hy⟩ := hb j hlt2
      have htk2 := List.take_succ_eq_append_getElem hlt2
      refine WP.skip ?_
      refine WP.seq ?_
      refine WP.block ?_
      refine WP.rstill mixed (by kernel_rfl) H ?_
      clear H; intro w hbw8 H
      refine OPS.val rfl rfl rfl (Ev.mvB rfl) ?_
      refine OPS.val rfl rfl rfl (Ev.mvB rfl) ?_
      refine OPS.gval rfl rfl rfl rfl rfl (fun hg => Ev.mvS (by rfl)) ?_
      refine OPS.gval rfl rfl rfl rfl rfl (fun hg => Ev.mvI (by rfl)) ?_
      refine OPS.gval rfl rfl rfl rfl rfl (fun hg => (by exact Ev.indexAddr1 (el_run rfl) (size_run rfl) (by exact gvE hg rfl) (by exact gvE hg rfl) rfl (by omega))) ?_
      refine OPS.gval rfl rfl rfl rfl rfl (fun hg => Ev.load1 (agg_run rfl) (by exact gvE hg rfl) (by exact H.ld0 (by assumption))) ?_
      refine OPS.gval rfl rfl rfl rfl rfl (fun hg => Ev.mvS (by rfl)) ?_
      refine OPS.gval rfl rfl rfl rfl rfl (fun hg => Ev.mvI (by rfl)) ?_
      refine OPS.gval rfl rfl rfl rfl rfl (fun hg => (by exact Ev.indexAddr1 (el_run rfl) (size_run rfl) (by exact gvE hg rfl) (by exact gvE hg rfl) rfl (by omega))) ?_
      refine OPS.gval rfl rfl rfl rfl rfl (fun hg => Ev.load1 (agg_run rfl) (by exact gvE hg rfl) (by exact H.ld0 (by assumption))) ?_
      refine OPS.gval rfl rfl rfl rfl rfl (fun hg => Ev.eql (by exact gvE hg rfl) (by exact gvE hg rfl)) ?_
      refine OPS.val rfl rfl rfl ((by exact Ev.pickOr rfl rfl rfl)) ?_
      refine OPS.val rfl rfl rfl (Ev.asB rfl) ?_
      refine OPS.nil_s ?_
      refine WP.region ?_
      refine OPS.val rfl rfl rfl (Ev.mvI rfl) ?_
      refine OPS.val rfl rfl rfl (Ev.add rfl rfl (by unfold fits; omega)) ?_
      refine OPS.val rfl rfl rfl (Ev.asI rfl) ?_
      refine OPS.nil ?_
      exact ⟨(by repeat (first | exact Agree.refl _ _ | exact Agree.mix _ _ _ | refine Agree.upd rfl ?_ | refine Agree.mix2 rfl ?_)), k6 - 1, by omega, j + 1, by omega, rfl, (by
        rw [htk2]
        show Value.bool (decide (a[i] ∈ b.take j) || decide (a[i] = b[j])) = _
        rw [← Bool.decide_or]
        congr 1
        simp only [List.mem_append, List.mem_singleton]), H⟩
    have hj : j = b.length := by simp at hc6; omega
    rw [hj, List.take_length]
    refine WP.exit ?_
    refine XB.hit ?_
    refine WP.seq ?_
    refine WP.seq ?_
    refine WP.region ?_
    refine OPS.val rfl rfl rfl (Ev.asI rfl) ?_
    refine OPS.nil ?_
    refine WP.block ?_
    refine WP.loop [6, 8, 33, 34, 35, 36, 37, 38, 39, 40, 41, 42, 43, 44, 45, 46, 47, 48, 49] (fun k e w' => ∃ (q : Nat), q + k = i ∧ e 8 = I q ∧ e 6 = .bool (decide (a[i] ∈ b ∧ a[i] ∉ a.take q)) ∧ SH w0 [] w' []) (i) (⟨0, by omega, rfl, by show Value.bool (decide (a[i] ∈ b)) = _; simp, H⟩) ?_
    clear H
    rintro k10 u10 w ⟨q, hk10, h8, h6, H⟩
    refine WP.know (t := 8) h8 (WP.know (t := 6) h6 ?_)
    refine WP.seq ?_
    refine WP.seq ?_
    refine WP.region ?_
    refine OPS.val rfl rfl rfl (Ev.mvI rfl) ?_
    refine OPS.val rfl rfl rfl (Ev.mvI rfl) ?_
    refine OPS.val rfl rfl rfl (Ev.lss rfl rfl) ?_
    refine OPS.nil ?_
    refine WP.cond rfl (fun hc10 => ?_) (fun hc10 => ?_)
    · have hlt3 : q < i := by simpa using hc10
      have hz : w0.cell? ⟨b1, o1 + q, none⟩ = some (I a[q]) := by
        obtain ⟨b3, o3, e3, hz⟩ := ha q (by omega)
        cases e3; exact hz
      have htk3 := List.take_succ_eq_append_getElem (show q < a.length by omega)
      refine WP.skip ?_
      refine WP.seq ?_
      refine WP.block ?_
      refine WP.rstill mixed (by kernel_rfl) H ?_
      clear H; intro w hbw12 H
      refine OPS.val rfl rfl rfl (Ev.mvB rfl) ?_
      refine OPS.val rfl rfl rfl (Ev.mvB rfl) ?_
      refine OPS.gval rfl rfl rfl rfl rfl (fun hg => Ev.mvS (by rfl)) ?_
      refine OPS.gval rfl rfl rfl rfl rfl (fun hg => Ev.mvI (by rfl)) ?_
      refine OPS.gval rfl rfl rfl rfl rfl (fun hg => (by exact Ev.indexAddr1 (el_run rfl) (size_run rfl) (by exact gvE hg rfl) (by exact gvE hg rfl) rfl (by omega))) ?_
      refine OPS.gval rfl rfl rfl rfl rfl (fun hg => Ev.load1 (agg_run rfl) (by exact gvE hg rfl) (by exact H.ld0 (by assumption))) ?_
      refine OPS.gval rfl rfl rfl rfl rfl (fun hg => Ev.mvS (by rfl)) ?_
      refine OPS.gval rfl rfl rfl rfl rfl (fun hg => Ev.mvI (by rfl)) ?_
      refine OPS.gval rfl rfl rfl rfl rfl (fun hg => (by exact Ev.indexAddr1 (el_run rfl) (size_run rfl) (by exact gvE hg rfl) (by exact gvE hg rfl) rfl (by omega))) ?_
      refine OPS.gval rfl rfl rfl rfl rfl (fun hg => Ev.load1 (agg_run rfl) (by exact gvE hg rfl) (by exact H.ld0 (by assumption))) ?_
      refine OPS.gval rfl rfl rfl rfl rfl (fun hg => Ev.neq (by exact gvE hg rfl) (by exact gvE hg rfl)) ?_
      refine OPS.val rfl rfl rfl ((by exact Ev.pickAnd rfl rfl rfl)) ?_
      refine OPS.val rfl rfl rfl (Ev.asB rfl) ?_
      refine OPS.nil_s ?_
      refine WP.region ?_
      refine OPS.val rfl rfl rfl (Ev.mvI rfl) ?_
      refine OPS.val rfl rfl rfl (Ev.add rfl rfl (by unfold fits; omega)) ?_
      refine OPS.val rfl rfl rfl (Ev.asI rfl) ?_
      refine OPS.nil ?_
      exact ⟨(by repeat (first | exact Agree.refl _ _ | exact Agree.mix _ _ _ | refine Agree.upd rfl ?_ | refine Agree.mix2 rfl ?_)), k10 - 1, by omega, q + 1, by omega, rfl, (by
        rw [htk3]
        show Value.bool (decide (a[i] ∈ b ∧ a[i] ∉ a.take q) && !decide (a[q] = a[i])) = _
        congr 1
        rw [Bool.eq_iff_iff]
        simp only [Bool.and_eq_true, decide_eq_true_eq, Bool.not_eq_true', decide_eq_false_iff_not, List.mem_append, List.mem_singleton, not_or]
        constructor
        · rintro ⟨⟨h1, h2⟩, h3⟩; exact ⟨h1, h2, fun h => h3 h.symm⟩
        · rintro ⟨h1, h2, h3⟩; exact ⟨⟨h1, h2⟩, fun h => h3 h.symm⟩), H⟩
    have hq : q = i := by simp at hc10; omega
    subst hq
    refine WP.exit ?_
    refine XB.hit ?_
    refine WP.seq ?_
    refine WP.region ?_
    refine OPS.val rfl rfl rfl (Ev.mvB rfl) ?_
    refine OPS.val rfl rfl rfl (Ev.not rfl) ?_
    refine OPS.nil ?_
    refine WP.cond rfl (fun hc13 => ?_) (fun hc13 => ?_)
    · refine WP.seq ?_
      refine WP.region ?_
      refine OPS.val rfl rfl rfl (Ev.asB rfl) ?_
      refine OPS.nil ?_
      refine WP.ret ⟨_, rfl, ?_⟩
      have hno : ¬ (a[q] ∈ b ∧ a[q] ∉ a.take q) := fun h => by
        rw [decide_eq_true h] at hc13; cases hc13
      refine ⟨ret_b rfl (decide_eq_false ?_).symm, H.below⟩
      rintro ⟨h1, h2⟩
      refine hno ⟨h2 _ (List.getElem_mem hlt), fun hm => ?_⟩
      have h3 := h1.sublist (List.take_sublist (q + 1) a)
      rw [htk, List.nodup_append] at h3
      exact h3.2.2 _ hm _ (by simp) rfl
    have hyes : a[q] ∈ b ∧ a[q] ∉ a.take q := by simpa using hc13
    refine WP.skip ?_
    refine WP.region ?_
    refine OPS.val rfl rfl rfl (Ev.mvI rfl) ?_
    refine OPS.val rfl rfl rfl (Ev.add rfl rfl (by unfold fits; omega)) ?_
    refine OPS.val rfl rfl rfl (Ev.asI rfl) ?_
    refine OPS.nil ?_
    exact ⟨(by repeat (first | exact Agree.refl _ _ | exact Agree.mix _ _ _ | refine Agree.upd rfl ?_ | refine Agree.mix2 rfl ?_)), k - 1, by omega, q + 1, by omega, rfl, (by
      rw [htk, List.nodup_append]
      exact ⟨hnd, by simp, fun x hx y hy he => by simp at hy; subst hy he; exact hyes.2 hx⟩), (fun x hx => by
      rw [htk, List.mem_append, List.mem_singleton] at hx
      rcases hx with hx | rfl
      · exact hall x hx
      · exact hyes.1), H⟩
  refine WP.exit ?_
  refine XB.hit ?_
  refine WP.seq ?_
  refine WP.region ?_
  refine OPS.val rfl rfl rfl (Ev.asB rfl) ?_
  refine OPS.nil ?_
  refine WP.ret ⟨_, rfl, ?_⟩
  have hi : i = a.length := by simp at hc2; omega
  rw [hi, List.take_length] at hnd hall
  exact ⟨ret_b rfl (decide_eq_true ⟨hnd, hall⟩).symm, H.below⟩
def fewL (ll tl nl rl : Nat) : Bool := fewB ll tl nl && decide (rl ≤ 10)
theorem lawFew (n hd rt : Int) (A B C R : Option Addr) (ll tl nl rl ca cb cc cr : Nat) (w0 : World) :
    Calls Try.prog 9 #[.agg #[I n, .slice A ll ca, .slice B tl cb, .slice C nl cc, I hd], .agg #[I rt, .slice R rl cr]] w0 fun e w' => e = .returned (.bool (fewL ll tl nl rl)) ∧ Below w0.heap.size w0 w' := by
  have H := SH.refl w0
  refine Calls.ofWP Try.func9 rfl Try.results9 Try.ntmps9 rfl ?_
  refine WP.seq ?_
  refine WP.region ?_
  refine OPS.box rfl rfl rfl rfl (cA rfl) H ?_
  clear H; intro g2 w H
  refine OPS.box rfl rfl rfl rfl (cA rfl) H ?_
  clear H; intro g3 w H
  refine OPS.val rfl rfl rfl (Ev.asB rfl) ?_
  refine OPS.nil ?_
  refine WP.seq ?_
  refine WP.region ?_
  refine OPS.val rfl rfl rfl ((by exact Ev.loadO 1 H rfl (agg_run rfl) (size_run rfl) (by rfl) rfl)) ?_
  refine OPS.call (d := some 6) rfl rfl rfl (EvC.func (fun_run rfl)) (r42Few n hd A B C ll tl nl ca cb cc w) ?_
  rintro _ w ⟨rfl, hb⟩
  refine ⟨_, rfl, ?_⟩
  replace H := H.toBelow hb; clear hb
  refine OPS.val rfl rfl rfl (Ev.mvB rfl) ?_
  refine OPS.gval rfl rfl rfl rfl rfl (fun hg => Ev.fieldAddr (fld_run rfl) (by rfl)) ?_
  refine OPS.gval rfl rfl rfl rfl rfl (fun hg => Ev.load1 (agg_run rfl) (by exact gvE hg rfl) (by exact H.ldL 0 rfl _ rfl)) ?_
  refine OPS.gval rfl rfl rfl rfl rfl (fun hg => Ev.len (el_run rfl) (by exact gvE hg rfl)) ?_
  refine OPS.gval rfl rfl rfl rfl rfl (fun hg => Ev.leq (by exact gvE hg rfl) (by rfl)) ?_
  refine OPS.val rfl rfl rfl ((by exact Ev.pickAnd rfl rfl rfl)) ?_
  refine OPS.val rfl rfl rfl (Ev.asB rfl) ?_
  refine OPS.nil ?_
  refine WP.ret ⟨_, rfl, ?_⟩
  have h1 : decide ((rl : Int) ≤ 10) = decide (rl ≤ 10) := decide_eq_decide.2 (by omega)
  exact ⟨by unfold fewL; rw [← h1]; rfl, H.below⟩
theorem lawEdge (a b c : Int) (w0 : World) : Calls Try.prog 34 #[I a, I b, I c] w0 fun e w' => e = .returned (.agg #[I a, I b, I c]) ∧ Below w0.heap.size w0 w' := by
  have H := SH.refl w0
  refine Calls.ofWPc Try.func34 rfl Try.results34 Try.ntmps34 rfl ?_
  refine WP.seq ?_
  refine WP.region ?_
  refine OPS.alloc rfl rfl rfl rfl (zero_run rfl) rfl H ?_
  clear H; intro g6 w H
  refine OPS.nil ?_
  refine WP.seq ?_
  refine WP.region ?_
  refine OPS.val rfl rfl rfl (Ev.mvI rfl) ?_
  refine OPS.val rfl rfl rfl (Ev.mvI rfl) ?_
  refine OPS.val rfl rfl rfl (Ev.mvI rfl) ?_
  refine OPS.val rfl rfl rfl (Ev.build (bld_72_0_1_2 rfl rfl rfl)) ?_
  refine OPS.store 0 _ rfl rfl rfl (size_run rfl) rfl (cA rfl) rfl rfl H rfl (by simp) ?_
  clear H; intro w H; try simp only [List.set_cons_zero, List.set_cons_succ, putL, Nat.zero_add] at H
  refine OPS.nil ?_
  refine WP.ret ⟨[_], ⟨(by exact resCellA 0 H rfl (agg_run rfl) (size_run rfl) (by rfl) rfl), trivial⟩, ?_⟩
  exact ⟨rfl, H.below⟩
def nightX (a b c : Nat) : List Value := [I 3, .slice (some ⟨a, 0, none⟩) xL.length 5, .slice (some ⟨b, 0, none⟩) xT.length 1, .slice (some ⟨c, 0, none⟩) xN.length 2, I 1]
theorem lawShort (w0 : World) : Calls Try.prog 22 #[] w0 fun e w' => ∃ a b c : Nat, e = .returned (.agg (nightX a b c).toArray) ∧ SH w0 [] w' [⟨a, 72, xL.flatMap edgCells⟩, ⟨b, 54, xT.flatMap truckCells⟩, ⟨c, 64, xN.flatMap needCells⟩] := by
  have H := SH.refl w0
  refine Calls.ofWPc Try.func22 rfl Try.results22 Try.ntmps22 rfl ?_
  refine WP.seq ?_
  refine WP.region ?_
  refine OPS.alloc rfl rfl rfl rfl (zero_run rfl) rfl H ?_
  clear H; intro g0 w H
  refine OPS.nil ?_
  refine WP.seq ?_
  refine WP.region ?_
  refine OPS.call (d := some 1) rfl rfl rfl (EvC.func (fun_run rfl)) (lawEdge 0 1 10 _) ?_
  rintro _ w ⟨rfl, hb⟩
  refine ⟨_, rfl, ?_⟩
  replace H := H.toBelow hb; clear hb
  refine OPS.call (d := some 2) rfl rfl rfl (EvC.func (fun_run rfl)) (lawEdge 1 0 10 _) ?_
  rintro _ w ⟨rfl, hb⟩
  refine ⟨_, rfl, ?_⟩
  replace H := H.toBelow hb; clear hb
  refine OPS.call (d := some 3) rfl rfl rfl (EvC.func (fun_run rfl)) (lawEdge 1 2 10 _) ?_
  rintro _ w ⟨rfl, hb⟩
  refine ⟨_, rfl, ?_⟩
  replace H := H.toBelow hb; clear hb
  refine OPS.call (d := some 4) rfl rfl rfl (EvC.func (fun_run rfl)) (lawEdge 2 1 10 _) ?_
  rintro _ w ⟨rfl, hb⟩
  refine ⟨_, rfl, ?_⟩
  replace H := H.toBelow hb; clear hb
  refine OPS.call (d := some 5) rfl rfl rfl (EvC.func (fun_run rfl)) (lawEdge 2 0 30 _) ?_
  rintro _ w ⟨rfl, hb⟩
  refine ⟨_, rfl, ?_⟩
  replace H := H.toBelow hb; clear hb
  refine OPS.buildSlice rfl rfl rfl rfl (bsl_22_5_0_1_2_3_4 rfl rfl rfl rfl rfl) H ?_
  clear H; intro g6 w H
  refine OPS.val rfl rfl rfl (Ev.build (bld_24_0_1 rfl rfl)) ?_
  refine OPS.val rfl rfl rfl (Ev.build (bld_52_1 rfl)) ?_
  refine OPS.val rfl rfl rfl (Ev.build (bld_54_1_2 rfl rfl)) ?_
  refine OPS.buildSlice rfl rfl rfl rfl (bsl_25_1_0 rfl) H ?_
  clear H; intro g10 w H
  refine OPS.val rfl rfl rfl (Ev.build (bld_64_0_1 rfl rfl)) ?_
  refine OPS.val rfl rfl rfl (Ev.build (bld_64_0_1 rfl rfl)) ?_
  refine OPS.buildSlice rfl rfl rfl rfl (bsl_26_2_0_1 rfl rfl) H ?_
  clear H; intro g13 w H
  refine OPS.val rfl rfl rfl (Ev.build (bld_28_0_1_2_3 rfl rfl rfl rfl)) ?_
  refine OPS.store 3 _ rfl rfl rfl (size_run rfl) rfl (cA rfl) rfl rfl H rfl (by simp) ?_
  clear H; intro w H; try simp only [List.set_cons_zero, List.set_cons_succ, putL, Nat.zero_add] at H
  refine OPS.nil ?_
  refine WP.ret ⟨[_], ⟨(by exact resCellA 3 H rfl (agg_run rfl) (size_run rfl) (by rfl) rfl), trivial⟩, ?_⟩
  exact ⟨g6, g10, g13, rfl, H.reidx [2, 1, 0] (by decide) rfl⟩
end Go.Proofs.Ytfddebpeiilohaa

/-
  Walk: awake.
-/
set_option linter.all false
namespace Go.Proofs.Ytfddebpeiilohaa
open Go Go.W Go.RowKit

section
variable (a b c g : Nat) (w0 : World) (hz : EdgsAt w0 (some ⟨a, 0, none⟩) xL) (ht : RowsAt 4 truckCells w0 (some ⟨b, 0, none⟩) xT) (hn : RowsAt 2 needCells w0 (some ⟨c, 0, none⟩) xN)
include hz ht hn
theorem xcBest2 (hr : IntsAt w0 (some ⟨g, 0, none⟩) [1, 0]) : Calls Try.prog 11 #[.agg (nightX a b c).toArray, I 0, .slice (some ⟨g, 0, none⟩) 2 2] w0 fun e w' =>
      ∃ (X : Option Addr) (cx : Nat) (Lf : List Blk), e = .returned (.tuple #[.agg #[I 0, .slice X 2 cx], I 0]) ∧ OwnS X cx 2 (([0, 1] : List Int).map I) 3 1 Lf ∧ SH w0 [] w' Lf := by
  refine (routeBestX 3 1 0 _ _ _ _ xL xT xN [1, 0] 5 1 2 2 w0 hz ht hn (by decide) hr (by decide)).mono ?_
  rintro e w' ⟨er, r0, x, X, cx, Lf, rfl, hA, hO, hS⟩
  obtain ⟨rfl, rfl, rfl⟩ := xBest2 hA
  exact ⟨X, cx, Lf, rfl, hO, hS⟩
theorem xcBest1 (hr : IntsAt w0 (some ⟨g, 0, none⟩) [1]) : Calls Try.prog 11 #[.agg (nightX a b c).toArray, I 0, .slice (some ⟨g, 0, none⟩) 1 1] w0 fun e w' =>
      ∃ (r0 : Int) (X : Option Addr) (nx cx : Nat), e = .returned (.tuple #[.agg #[I r0, .slice X nx cx], I 10]) ∧ Below w0.heap.size w0 w' := by
  refine (routeBestX 3 1 0 _ _ _ _ xL xT xN [1] 5 1 2 1 w0 hz ht hn (by decide) hr (by decide)).mono ?_
  rintro e w' ⟨er, r0, x, X, cx, Lf, rfl, hA, hO, hS⟩
  obtain rfl := xBest1 hA
  exact ⟨r0, X, _, cx, rfl, hS.below⟩
theorem xcMost1 (hr : IntsAt w0 (some ⟨g, 0, none⟩) [1]) : Calls Try.prog 14 #[.agg (nightX a b c).toArray, I 0, .slice (some ⟨g, 0, none⟩) 1 1] w0 fun e w' =>
      ∃ (r0 : Int) (X : Option Addr) (cx : Nat), e = .returned (.tuple #[.agg #[I r0, .slice X 0 cx], I 0]) ∧ Below w0.heap.size w0 w' := by
  refine (routeMostX 3 1 0 _ _ _ _ xL xT xN [1] 5 1 2 1 w0 hz ht hn (by decide) hr (by decide)).mono ?_
  rintro e w' ⟨er, r0, x, X, cx, Lf, rfl, hA, hO, hS⟩
  obtain ⟨rfl, rfl⟩ := xMost1 hA
  exact ⟨r0, X, cx, rfl, hS.below⟩
theorem xcMoved (hr : IntsAt w0 (some ⟨g, 0, none⟩) [0, 1]) : Calls Try.prog 16 #[.agg (nightX a b c).toArray, .slice (some ⟨g, 0, none⟩) 2 2] w0 fun e w' => e = .returned (.tuple #[I 8, I 0]) ∧ Below w0.heap.size w0 w' := by
  have h := routeMovedX 3 1 _ _ _ _ xL xT xN [0, 1] 5 1 2 2 w0 hz ht hn (by decide) hr (by decide)
  rw [xMoved.1, xMoved.2] at h
  exact h
end
set_option maxHeartbeats 2000000 in
theorem lawAwakeR (w0 : World) : Calls Try.prog 10 #[] w0 fun e w' => e = .returned (.bool true) ∧ Below w0.heap.size w0 w' := by
  have H := SH.refl w0
  have hzz : ∀ (ga : Nat) (w : World) (R : List Blk) (i : Nat), SH w0 [] w R → R[i]? = some ⟨ga, 72, xL.flatMap edgCells⟩ → EdgsAt w (some ⟨ga, 0, none⟩) xL := fun ga w R i H hi => rowsOwn' (enc := edgCells) (sz := 3) (l := xL) (fun _ => rfl) H i hi
  have htt : ∀ (gb : Nat) (w : World) (R : List Blk) (i : Nat), SH w0 [] w R → R[i]? = some ⟨gb, 54, xT.flatMap truckCells⟩ → RowsAt 4 truckCells w (some ⟨gb, 0, none⟩) xT := fun gb w R i H hi => rowsOwn' (enc := truckCells) (sz := 4) (l := xT) (fun _ => rfl) H i hi
  have hnn : ∀ (gc : Nat) (w : World) (R : List Blk) (i : Nat), SH w0 [] w R → R[i]? = some ⟨gc, 64, xN.flatMap needCells⟩ → RowsAt 2 needCells w (some ⟨gc, 0, none⟩) xN := fun gc w R i H hi => rowsOwn' (enc := needCells) (sz := 2) (l := xN) (fun _ => rfl) H i hi
  refine Calls.ofWP Try.func10 rfl Try.results10 Try.ntmps10 rfl ?_
  refine WP.seq ?_
  refine WP.region ?_
  refine OPS.val rfl rfl rfl (Ev.asB rfl) ?_
  refine OPS.nil ?_
  refine WP.seq ?_
  refine WP.region ?_
  refine OPS.call (d := some 10) rfl rfl rfl (EvC.func (fun_run rfl)) (lawShort w0) ?_
  rintro _ w ⟨ga, gb, gc, rfl, Hc⟩
  refine ⟨_, rfl, ?_⟩
  replace H := Hc
  clear Hc
  refine OPS.buildSlice rfl rfl rfl rfl (bsl_29_2_0_1 rfl rfl) H ?_
  clear H; intro g11 w H
  refine OPS.call (d := some 12) rfl rfl rfl (EvC.func (fun_run rfl)) (xcBest2 ga gb gc g11 w (hzz ga w _ 1 H rfl) (htt gb w _ 2 H rfl) (hnn gc w _ 3 H rfl) (onesOwn (l := [1, 0]) H 0 rfl)) ?_
  rintro _ w ⟨X, cX, Lf, rfl, hOX, Hc⟩
  refine ⟨_, rfl, ?_⟩
  replace H := SH.call (L1 := []) (Lv := []) (H.drop (List.nil_sublist _)) Hc
  clear Hc
  simp only [List.nil_append] at H
  refine OPS.val rfl rfl rfl (Ev.mvT rfl) ?_
  refine OPS.val rfl rfl rfl (Ev.extract rfl rfl) ?_
  refine OPS.val rfl rfl rfl (Ev.extract rfl rfl) ?_
  refine OPS.alloc rfl rfl rfl rfl (zero_run rfl) rfl H ?_
  clear H; intro g1 w H
  refine OPS.store 0 _ rfl rfl rfl (size_run rfl) rfl (cA rfl) rfl rfl H rfl (by simp) ?_
  clear H; intro w H; try simp only [List.set_cons_zero, List.set_cons_succ, putL, Nat.zero_add] at H
  refine OPS.val rfl rfl rfl (Ev.asI rfl) ?_
  refine OPS.nil ?_
  refine WP.seq ?_
  refine WP.region ?_
  refine OPS.call (d := some 16) rfl rfl rfl (EvC.func (fun_run rfl)) (lawShort w) ?_
  rintro _ w ⟨ga, gb, gc, rfl, Hc⟩
  refine ⟨_, rfl, ?_⟩
  replace H := (SH.call (L1 := _ :: Lf) (Lv := []) (by rw [List.append_nil]; exact H) Hc).perm List.perm_append_comm
  clear Hc
  simp only [List.cons_append, List.nil_append] at H
  refine OPS.buildSlice rfl rfl rfl rfl (bsl_29_1_0 rfl) H ?_
  clear H; intro g17 w H
  refine OPS.call (d := some 18) rfl rfl rfl (EvC.func (fun_run rfl)) (xcBest1 ga gb gc g17 w (hzz ga w _ 1 H rfl) (htt gb w _ 2 H rfl) (hnn gc w _ 3 H rfl) (onesOwn (l := [1]) H 0 rfl)) ?_
  rintro _ w ⟨r2, X2, n2, c2, rfl, hb⟩
  refine ⟨_, rfl, ?_⟩
  replace H := (H.toBelow hb).drop (((((List.Sublist.refl _).cons _).cons _).cons _).cons _)
  clear hb
  refine OPS.val rfl rfl rfl (Ev.mvT rfl) ?_
  refine OPS.val rfl rfl rfl (Ev.extract rfl rfl) ?_
  refine OPS.val rfl rfl rfl (Ev.extract rfl rfl) ?_
  refine OPS.alloc rfl rfl rfl rfl (zero_run rfl) rfl H ?_
  clear H; intro g3 w H
  refine OPS.store 0 _ rfl rfl rfl (size_run rfl) rfl (cA rfl) rfl rfl H rfl (by simp) ?_
  clear H; intro w H; try simp only [List.set_cons_zero, List.set_cons_succ, putL, Nat.zero_add] at H
  refine OPS.val rfl rfl rfl (Ev.asI rfl) ?_
  refine OPS.nil ?_
  replace H := H.drop (List.sublist_cons_self _ _)
  refine WP.seq ?_
  refine WP.region ?_
  refine OPS.call (d := some 22) rfl rfl rfl (EvC.func (fun_run rfl)) (lawShort w) ?_
  rintro _ w ⟨ga, gb, gc, rfl, Hc⟩
  refine ⟨_, rfl, ?_⟩
  replace H := (SH.call (L1 := _ :: Lf) (Lv := []) (by rw [List.append_nil]; exact H) Hc).perm List.perm_append_comm
  clear Hc
  simp only [List.cons_append, List.nil_append] at H
  refine OPS.buildSlice rfl rfl rfl rfl (bsl_29_1_0 rfl) H ?_
  clear H; intro g23 w H
  refine OPS.call (d := some 24) rfl rfl rfl (EvC.func (fun_run rfl)) (xcMost1 ga gb gc g23 w (hzz ga w _ 1 H rfl) (htt gb w _ 2 H rfl) (hnn gc w _ 3 H rfl) (onesOwn (l := [1]) H 0 rfl)) ?_
  rintro _ w ⟨r3, X3, c3, rfl, hb⟩
  refine ⟨_, rfl, ?_⟩
  replace H := (H.toBelow hb).drop (((((List.Sublist.refl _).cons _).cons _).cons _).cons _)
  clear hb
  refine OPS.val rfl rfl rfl (Ev.mvT rfl) ?_
  refine OPS.val rfl rfl rfl (Ev.extract rfl rfl) ?_
  refine OPS.val rfl rfl rfl (Ev.extract rfl rfl) ?_
  refine OPS.alloc rfl rfl rfl rfl (zero_run rfl) rfl H ?_
  clear H; intro g5 w H
  refine OPS.store 0 _ rfl rfl rfl (size_run rfl) rfl (cA rfl) rfl rfl H rfl (by simp) ?_
  clear H; intro w H; try simp only [List.set_cons_zero, List.set_cons_succ, putL, Nat.zero_add] at H
  refine OPS.val rfl rfl rfl (Ev.asI rfl) ?_
  refine OPS.nil ?_
  refine WP.seq ?_
  refine WP.region ?_
  refine OPS.call (d := some 28) rfl rfl rfl (EvC.func (fun_run rfl)) (lawShort w) ?_
  rintro _ w ⟨ga, gb, gc, rfl, Hc⟩
  refine ⟨_, rfl, ?_⟩
  replace H := (SH.call (L1 := _ :: _ :: Lf) (Lv := []) (by rw [List.append_nil]; exact H) Hc).perm List.perm_append_comm
  clear Hc
  simp only [List.cons_append, List.nil_append] at H
  refine OPS.buildSlice rfl rfl rfl rfl (bsl_29_2_0_1 rfl rfl) H ?_
  clear H; intro g29 w H
  refine OPS.call (d := some 30) rfl rfl rfl (EvC.func (fun_run rfl)) (xcMoved ga gb gc g29 w (hzz ga w _ 1 H rfl) (htt gb w _ 2 H rfl) (hnn gc w _ 3 H rfl) (onesOwn (l := [0, 1]) H 0 rfl)) ?_
  rintro _ w ⟨rfl, hb⟩
  refine ⟨_, rfl, ?_⟩
  replace H := (H.toBelow hb).drop (((((List.Sublist.refl _).cons _).cons _).cons _).cons _)
  clear hb
  refine OPS.val rfl rfl rfl (Ev.mvT rfl) ?_
  refine OPS.val rfl rfl rfl (Ev.extract rfl rfl) ?_
  refine OPS.val rfl rfl rfl (Ev.extract rfl rfl) ?_
  refine OPS.val rfl rfl rfl (Ev.asI rfl) ?_
  refine OPS.val rfl rfl rfl (Ev.asI rfl) ?_
  refine OPS.nil ?_
  refine WP.seq ?_
  refine WP.region ?_
  refine OPS.val rfl rfl rfl (Ev.mvI rfl) ?_
  refine OPS.val rfl rfl rfl (Ev.eql rfl rfl) ?_
  refine OPS.val rfl rfl rfl (Ev.mvB rfl) ?_
  refine OPS.gyes rfl rfl rfl rfl ?_
  refine OPS.val rfl rfl rfl (Ev.loadO 1 H rfl (agg_run rfl) (size_run rfl) rfl rfl) ?_
  refine OPS.gyes rfl rfl rfl rfl ?_
  refine OPS.buildSlice rfl rfl rfl rfl (bsl_29_2_0_1 rfl rfl) H ?_
  clear H; intro g37 w H
  refine OPS.gyes rfl rfl rfl rfl ?_
  refine OPS.val rfl rfl rfl (Ev.build (bld_34_1 rfl)) ?_
  refine OPS.gyes rfl rfl rfl rfl ?_
  refine OPS.call (d := some 39) rfl rfl rfl (EvC.func (fun_run rfl)) (rSame 0 0 X (some ⟨g37, 0, none⟩) [0, 1] [0, 1] cX 2 w (hOX.ones (R := [_, _, _]) H).1 (onesOwn (l := [0, 1]) H 0 rfl) (by decide) (by decide)) ?_
  rintro _ w ⟨rfl, hb'⟩
  refine ⟨_, rfl, ?_⟩
  replace H := H.toBelow hb'; clear hb'
  refine OPS.val rfl rfl rfl (Ev.pickT (v := .bool true) rfl rfl rfl) ?_
  refine OPS.val rfl rfl rfl (Ev.mvB rfl) ?_
  refine OPS.gval rfl rfl rfl rfl rfl (fun hg => Ev.mvI (by rfl)) ?_
  refine OPS.gval rfl rfl rfl rfl rfl (fun hg => Ev.eql (by exact gvE hg rfl) (by rfl)) ?_
  refine OPS.val rfl rfl rfl ((by exact Ev.pickAnd rfl rfl rfl)) ?_
  refine OPS.val rfl rfl rfl (Ev.mvB rfl) ?_
  refine OPS.gval rfl rfl rfl rfl rfl (fun hg => Ev.mvI (by rfl)) ?_
  refine OPS.gval rfl rfl rfl rfl rfl (fun hg => Ev.eql (by exact gvE hg rfl) (by rfl)) ?_
  refine OPS.val rfl rfl rfl ((by exact Ev.pickAnd rfl rfl rfl)) ?_
  refine OPS.val rfl rfl rfl (Ev.mvB rfl) ?_
  refine OPS.gval rfl rfl rfl rfl rfl (fun hg => Ev.fieldAddr (fld_run rfl) (by rfl)) ?_
  refine OPS.gval rfl rfl rfl rfl rfl (fun hg => Ev.load1 (agg_run rfl) (by exact gvE hg rfl) (by exact H.ldL 1 rfl _ rfl)) ?_
  refine OPS.gval rfl rfl rfl rfl rfl (fun hg => Ev.len (el_run rfl) (by exact gvE hg rfl)) ?_
  refine OPS.gval rfl rfl rfl rfl rfl (fun hg => Ev.eql (by exact gvE hg rfl) (by rfl)) ?_
  refine OPS.val rfl rfl rfl ((by exact Ev.pickAnd rfl rfl rfl)) ?_
  refine OPS.val rfl rfl rfl (Ev.mvB rfl) ?_
  refine OPS.gval rfl rfl rfl rfl rfl (fun hg => Ev.mvI (by rfl)) ?_
  refine OPS.gval rfl rfl rfl rfl rfl (fun hg => Ev.eql (by exact gvE hg rfl) (by rfl)) ?_
  refine OPS.val rfl rfl rfl ((by exact Ev.pickAnd rfl rfl rfl)) ?_
  refine OPS.val rfl rfl rfl (Ev.mvB rfl) ?_
  refine OPS.gval rfl rfl rfl rfl rfl (fun hg => Ev.mvI (by rfl)) ?_
  refine OPS.gval rfl rfl rfl rfl rfl (fun hg => Ev.eql (by exact gvE hg rfl) (by rfl)) ?_
  refine OPS.val rfl rfl rfl ((by exact Ev.pickAnd rfl rfl rfl)) ?_
  refine OPS.val rfl rfl rfl (Ev.asB rfl) ?_
  refine OPS.nil ?_
  refine WP.ret ⟨_, rfl, ?_⟩
  exact ⟨rfl, H.below⟩
end Go.Proofs.Ytfddebpeiilohaa

/-
  Plain: what the laws ask of the best and of the most.
-/
set_option linter.all false
namespace Go.Proofs.Ytfddebpeiilohaa
open Go Go.W Go.RowKit

theorem mvL_perm {ns : List Need} {a b : List Int} (h : a.Perm b) : mvL ns a = mvL ns b := by
  unfold mvL
  induction h with
  | nil => rfl
  | cons x _ ih => simp only [List.map_cons, List.sum_cons, ih]
  | swap x y l => simp only [List.map_cons, List.sum_cons]; omega
  | trans _ _ ih1 ih2 => exact ih1.trans ih2
theorem mvL_sublist {ns : List Need} {a b : List Int} (h : a.Sublist b) (hp : ∀ i ∈ b, 0 < absI (needAt ns i).move) : mvL ns a ≤ mvL ns b ∧ (a.length < b.length → mvL ns a < mvL ns b) := by
  induction h with
  | slnil => exact ⟨Int.le_refl _, fun h => by simp at h⟩
  | cons x h ih =>
    have h1 := (ih fun i hi => hp i (List.mem_cons_of_mem _ hi)).1
    have h2 := hp x List.mem_cons_self
    have h3 : ∀ l, mvL ns (x :: l) = absI (needAt ns x).move + mvL ns l := fun l => by unfold mvL; simp
    rw [h3]
    exact ⟨by omega, fun _ => by omega⟩
  | cons_cons x h ih =>
    obtain ⟨h1, h1'⟩ := ih fun i hi => hp i (List.mem_cons_of_mem _ hi)
    have h3 : ∀ l, mvL ns (x :: l) = absI (needAt ns x).move + mvL ns l := fun l => by unfold mvL; simp
    rw [h3, h3]
    exact ⟨by omega, fun hl => by have := h1' (by simpa using hl); omega⟩
theorem sub_full {l o : List Int} (hl : l.Nodup) (ho : o.Nodup) (hs : ∀ x ∈ o, x ∈ l) (he : o.length = l.length) : o.Perm l := by
  obtain ⟨s, _, h⟩ := part_of hl ho hs
  have h1 := pickS_sub l s
  have h2 := h1.eq_of_length (by rw [← h.length_eq]; exact he)
  rw [h2] at h; exact h
theorem mvL_part {ns : List Need} {l o : List Int} (hl : l.Nodup) (ho : o.Nodup) (hs : ∀ x ∈ o, x ∈ l) (hp : ∀ i ∈ l, 0 < absI (needAt ns i).move) : mvL ns o ≤ mvL ns l ∧ (o.length < l.length → mvL ns o < mvL ns l) := by
  obtain ⟨s, _, h⟩ := part_of hl ho hs
  have h1 := mvL_sublist (pickS_sub l s) hp
  rw [mvL_perm h, h.length_eq]; exact h1
theorem roadErr_ne (n : Int) (l : List Edg) : roadErr n l ≠ 10 := by
  have h : ∀ l : List Edg, edgsErr n l ≠ 10 := fun l => by
    induction l with
    | nil => simp [edgsErr]
    | cons a l ih => unfold edgsErr; split <;> (try split) <;> first | decide | exact ih
  unfold roadErr
  repeat' split
  all_goals first | decide | exact h _
theorem nightErr_ne (n : Int) (l : List Edg) (ts : List Truck) (ns : List Need) (hd : Int) : nightErr n l ts ns hd ≠ 10 := by
  have h1 : ∀ l : List Truck, trucksErr n l ≠ 10 := fun l => by
    induction l with
    | nil => simp [trucksErr]
    | cons a l ih => unfold trucksErr; split <;> (try split) <;> first | decide | exact ih
  have h2 : ∀ l : List Need, needsErr n l ≠ 10 := fun l => by
    induction l with
    | nil => simp [needsErr]
    | cons a l ih => unfold needsErr; split <;> (try split) <;> first | decide | exact ih
  unfold nightErr
  repeat' split
  all_goals first | decide | exact h1 _ | exact h2 _ | exact roadErr_ne _ _
section
variable {n : Int} {l : List Edg} {ts : List Truck} {ns : List Need} {hd rt : Int} {rn : List Int}
theorem askErr_ne : askErr n l ts ns hd rt rn ≠ 10 := by
  unfold askErr routeErr
  repeat' split
  all_goals first | decide | exact nightErr_ne _ _ _ _ _ | (rename_i h _; split at h <;> (try split at h) <;> simp_all)
theorem askErr_perm {rn' : List Int} (h : rn.Perm rn') : askErr n l ts ns hd rt rn = askErr n l ts ns hd rt rn' := by
  have h1 : rn.any (outB ns.length) = rn'.any (outB ns.length) := by
    rw [Bool.eq_iff_iff, List.any_eq_true, List.any_eq_true]
    exact ⟨fun ⟨x, hx, hy⟩ => ⟨x, h.mem_iff.1 hx, hy⟩, fun ⟨x, hx, hy⟩ => ⟨x, h.mem_iff.2 hx, hy⟩⟩
  have h2 : twiceB rn = twiceB rn' := by unfold twiceB; rw [decide_eq_decide.2 h.nodup_iff]
  unfold askErr routeErr
  rw [h1, h2, h.length_eq]
/-- what a good question gives -/
structure AskOk (m : Nat) (l : List Edg) (ts : List Truck) (ns : List Need) (hd rt : Int) (rn : List Int) : Prop where
  night : nightErr m l ts ns hd = 0
  ok : NightOk m l ts ns hd
  tr : 0 ≤ rt ∧ rt < ts.length
  inr : ∀ i ∈ rn, 0 ≤ i ∧ i < ns.length
  nd : rn.Nodup
  len : rn.length ≤ 6
  pos : ∀ i ∈ rn, 0 < absI (needAt ns i).move
theorem askOk_of (h : askErr n l ts ns hd rt rn = 0) : ∃ m : Nat, n = m ∧ AskOk m l ts ns hd rt rn := by
  obtain ⟨h1, h2, h3⟩ := ask_ok h
  obtain ⟨m, rfl, hN⟩ := nightOk_of h1
  obtain ⟨h4, h5, h6, _⟩ := routeOk_of h2
  refine ⟨m, rfl, h1, hN, h4, h5, h6, h3, fun i hi => ?_⟩
  obtain ⟨h7, h8⟩ := h5 i hi
  obtain ⟨q, rfl⟩ := Int.eq_ofNat_of_zero_le h7
  have hq : q < ns.length := by omega
  rw [needAt_eq hq]
  have := (hN.nd ns[q] (List.getElem_mem hq)).2.1
  unfold absI; split <;> omega
theorem AskOk.nil {m : Nat} (h : AskOk m l ts ns hd rt rn) : walkE m l ts ns hd rt [] = 0 := by
  obtain ⟨q, rfl⟩ := Int.eq_ofNat_of_zero_le h.tr.1
  have hq : q < ts.length := by have := h.tr.2; omega
  have htr := h.ok.tr ts[q] (List.getElem_mem hq)
  have hgt : ts.getD (q : Int).toNat default = ts[q] := by simp [hq]
  have hr : routeErr ts ns q [] = 0 := by
    unfold routeErr
    rw [if_neg (by simp [outB, inB]; omega), if_neg (by simp [twiceB])]
  obtain ⟨d, hd'⟩ := Int.eq_ofNat_of_zero_le htr.1.1
  have hdm : d < m := by omega
  have h0 : roadT m l d d = 0 := by
    obtain ⟨K, D, hR⟩ := rd_exists h.ok.road hdm
    rw [roadT_eq h.ok.road hR hdm, if_pos hR.src.1, hR.src.2]
  rw [walkE, if_neg (by rw [h.night]; decide), if_neg (by rw [hr]; decide), hgt]
  unfold endT
  rw [hgt]
  simp only [goE, goT, ne_eq, not_true_eq_false, if_false, startT, homeE, roadD, hd', Int.toNat_natCast, h0]
  rw [if_neg (by omega), if_neg (by omega)]
end
end Go.Proofs.Ytfddebpeiilohaa

/-
  Walk: begin of the reference's search.
-/
set_option linter.all false
namespace Go.Proofs.Ytfddebpeiilohaa
open Go Go.W Go.RowKit

def ngL (n : Int) (A B C : Option Addr) (ll tl nl ca cb cc : Nat) (hd : Int) : List Value := [I n, .slice A ll ca, .slice B tl cb, .slice C nl cc, I hd]
/-- the cells of a search -/
def srL (n : Int) (A B C : Option Addr) (ll tl nl ca cb cc : Nat) (hd : Int) (t : Truck) (R : Option Addr) (rl cr : Nat) (T : Option Addr) (tn tc : Nat) (al : Bool) (O : Option Addr) (ol oc : Nat) (fd : Bool) (X : Option Addr) (xl xc : Nat) (mv sc : Int) : List Value :=
  [I n, .slice A ll ca, .slice B tl cb, .slice C nl cc, I hd, I t.depot, I t.cap, I t.from_, I t.to_, .slice R rl cr, .slice T tn tc, .bool al, .slice O ol oc, .bool fd, .slice X xl xc, I mv, I sc]
def nodesOf (ns : List Need) (t : Truck) (rn : List Int) : List Nat := t.depot.toNat :: rn.map fun i => (needAt ns i).node.toNat
theorem nodesOf_len (ns : List Need) (t : Truck) (rn : List Int) : (nodesOf ns t rn).length = rn.length + 1 := by simp [nodesOf]
set_option maxHeartbeats 4000000 in
theorem rBegin (m : Nat) (hd : Int) (q : Nat) (A B C R : Option Addr) (l : List Edg) (ts : List Truck) (ns : List Need) (rn : List Int) (ca cb cc cr : Nat) (al : Bool) (w0 : World) (hz : EdgsAt w0 A l) (ht : RowsAt 4 truckCells w0 B ts) (hn : RowsAt 2 needCells w0 C ns) (hr : IntsAt w0 R rn) (hq : q < ts.length) (hk : AskOk m l ts ns hd q rn) :
    Calls Try.prog 27 #[.agg #[I m, .slice A l.length ca, .slice B ts.length cb, .slice C ns.length cc, I hd], I q, .slice R rn.length cr, .bool al] w0 fun e w' => ∃ (T : Option Addr) (c : Nat) (L : List Blk),
      e = .returned (.agg (srL m A B C l.length ts.length ns.length ca cb cc hd ts[q] R rn.length cr T (rn.length + 1) c al none 0 0 false none 0 0 0 0).toArray) ∧ Reads L (fun w => TabAt w T m l (nodesOf ns ts[q] rn)) ∧ SH w0 [] w' L := by
  have H := SH.refl w0
  have hl6 := hk.len
  obtain ⟨bt, ot, rfl, htc⟩ := ht q hq
  have htr := hk.ok.tr ts[q] (List.getElem_mem hq)
  generalize htt : ts[q] = t at *
  obtain ⟨dp, hdp⟩ := Int.eq_ofNat_of_zero_le htr.1.1
  have hnode : ∀ i ∈ rn, 0 ≤ (needAt ns i).node ∧ (needAt ns i).node < m := fun i hi => by
    obtain ⟨h7, h8⟩ := hk.inr i hi
    obtain ⟨p, rfl⟩ := Int.eq_ofNat_of_zero_le h7
    have hp : p < ns.length := by omega
    rw [needAt_eq hp]
    exact (hk.ok.nd ns[p] (List.getElem_mem hp)).1
  have hnm : ∀ v ∈ nodesOf ns t rn, v < m := fun v hv => by
    unfold nodesOf at hv
    rcases List.mem_cons.1 hv with rfl | hv
    · omega
    · obtain ⟨i, hi, rfl⟩ := List.mem_map.1 hv
      have := hnode i hi; omega
  refine Calls.ofWPc Try.func27 rfl Try.results27 Try.ntmps27 rfl ?_
  refine WP.seq ?_
  refine WP.region ?_
  refine OPS.box rfl rfl rfl rfl (cA rfl) H ?_
  clear H; intro g4 w H
  refine OPS.alloc rfl rfl rfl rfl (zero_run rfl) rfl H ?_
  clear H; intro g8 w H
  refine OPS.nil ?_
  refine WP.seq ?_
  refine WP.region ?_
  refine OPS.val rfl rfl rfl (Ev.fieldAddr (fld_run rfl) rfl) ?_
  refine OPS.val rfl rfl rfl (Ev.load1 (agg_run rfl) rfl (by exact H.ldL 1 rfl _ rfl)) ?_
  refine OPS.val rfl rfl rfl (Ev.mvI rfl) ?_
  refine OPS.val rfl rfl rfl ((by exact Ev.indexAddr (el_run rfl) (size_run rfl) rfl rfl rfl (by omega))) ?_
  have htc' := cellsAt_sh H htc
  refine OPS.val rfl rfl rfl ((by (change Ev _ _ _ _ (Op.load 54 (Operand.tmp 17)) _; exact Ev.loadN (truckCells t) (agg_run rfl) (size_run rfl) rfl htc'))) ?_
  refine OPS.alloc rfl rfl rfl rfl (zero_run rfl) rfl H ?_
  clear H; intro g9 w H
  refine OPS.store 0 _ rfl rfl rfl (size_run rfl) rfl (cA rfl) rfl rfl H rfl (by simp) ?_
  clear H; intro w H; try simp only [List.set_cons_zero, List.set_cons_succ, putL, Nat.zero_add] at H
  refine OPS.nil ?_
  refine WP.seq ?_
  refine WP.region ?_
  refine OPS.val rfl rfl rfl (Ev.fieldAddr (fld_run rfl) rfl) ?_
  refine OPS.val rfl rfl rfl (Ev.load1 (agg_run rfl) rfl (by exact H.ldL 0 rfl _ rfl)) ?_
  refine OPS.buildSlice rfl rfl rfl rfl (bsl_29_1_0 rfl) H ?_
  clear H; intro g21 w H
  refine OPS.val rfl rfl rfl (Ev.asS rfl) ?_
  refine OPS.nil ?_
  refine WP.seq ?_
  refine WP.seq ?_
  refine WP.region ?_
  refine OPS.val rfl rfl rfl (Ev.asI rfl) ?_
  refine OPS.nil ?_
  have hO0 : OwnS (some ⟨g21, 0, none⟩) 1 1 ([I t.depot]) 3 1 [⟨g21, 3, [I t.depot]⟩] := ⟨rfl, .inr ⟨g21, [], rfl, rfl, Nat.le_refl _, by unfold maxLen; omega, rfl⟩⟩
  have hTb := fun w V cv hz hr => r8Table m A V l (nodesOf ns t rn) ca cv w hz hk.ok.road hr hnm (by rw [nodesOf_len]; omega)
  rw [nodesOf_len] at hTb
  replace H := H.perm (List.perm_append_singleton _ _).symm
  refine WP.block ?_
  refine WP.loop [10, 11, 22, 23, 24, 25, 26, 27, 28, 29, 30, 31, 32, 33, 34, 35, 36, 37, 38, 39] (fun k e w' => ∃ (j : Nat) (V : Option Addr) (cv : Nat) (Lv : List Blk), j + k = rn.length ∧ e 11 = I j ∧ e 10 = .slice V (j + 1) cv ∧ OwnS V cv (j + 1) ((((nodesOf ns t rn).map fun v : Nat => (v : Int)).take (j + 1)).map I) 3 1 Lv ∧ SH w0 [] w' ([⟨g9, 54, truckCells t⟩, ⟨g8, 57, srL 0 none none none 0 0 0 0 0 0 0 ⟨0, 0, 0, 0⟩ none 0 0 none 0 0 false none 0 0 false none 0 0 0 0⟩, ⟨g4, 28, [I m, .slice A l.length ca, .slice (some ⟨bt, ot, none⟩) ts.length cb, .slice C ns.length cc, I hd]⟩] ++ Lv)) (rn.length) (⟨0, some ⟨g21, 0, none⟩, 1, [⟨g21, 3, [I t.depot]⟩], by omega, rfl, rfl, by simpa [nodesOf, hdp] using hO0, H⟩) ?_
  clear H
  rintro k u w ⟨j, V, cv, Lv, hk4, h11, h10, hOV, H⟩
  refine WP.know (t := 11) h11 (WP.know (t := 10) h10 ?_)
  refine WP.seq ?_
  refine WP.seq ?_
  refine WP.region ?_
  refine OPS.val rfl rfl rfl (Ev.mvI rfl) ?_
  refine OPS.val rfl rfl rfl (Ev.mvS rfl) ?_
  refine OPS.val rfl rfl rfl (Ev.len (el_run rfl) rfl) ?_
  refine OPS.val rfl rfl rfl (Ev.lss rfl rfl) ?_
  refine OPS.nil ?_
  refine WP.cond rfl (fun hc4 => ?_) (fun hc4 => ?_)
  · have hlt : j < rn.length := by simpa using hc4
    obtain ⟨br, orr, rfl, hx⟩ := hr j hlt
    have hir := hk.inr rn[j] (List.getElem_mem hlt)
    obtain ⟨i, hi⟩ := Int.eq_ofNat_of_zero_le hir.1
    have hnd := hnode rn[j] (List.getElem_mem hlt)
    have htk : (((nodesOf ns t rn).map fun v : Nat => (v : Int)).take (j + 2)).map I = (((nodesOf ns t rn).map fun v : Nat => (v : Int)).take (j + 1)).map I ++ [I (needAt ns rn[j]).node] := by
      have h1 : j + 1 < ((nodesOf ns t rn).map fun v : Nat => (v : Int)).length := by rw [List.length_map, nodesOf_len]; omega
      rw [List.take_succ_eq_append_getElem h1, List.map_append]
      congr 1
      simp only [List.map_cons, List.map_nil, List.getElem_map, nodesOf, List.getElem_cons_succ]
      congr 2
      omega
    rw [hi] at hx htk hnd
    have hil : i < ns.length := by omega
    obtain ⟨bn, on, rfl, hy⟩ := hn i hil
    rw [needAt_eq hil] at htk hnd
    generalize ns[i] = z at hy htk hnd
    obtain ⟨q1, q2, _⟩ := hy
    have Hf := H
    replace H := H.drop (L' := [_, _, _]) (List.sublist_append_left _ _)
    refine WP.skip ?_
    refine WP.seq ?_
    refine WP.block ?_
    refine WP.rheldC [10, 28, 29, 30, 31, 32, 33, 34, 35, 36, 37, 38, 39] (fun u w' => ∃ (V : Option Addr) (cv : Nat) (Lv : List Blk), u 10 = .slice V (j + 2) cv ∧ OwnS V cv (j + 2) ((((nodesOf ns t rn).map fun v : Nat => (v : Int)).take (j + 1)).map I ++ [I z.node]) 3 1 Lv ∧ SH w0 [] w' ([⟨g9, 54, truckCells t⟩, ⟨g8, 57, srL 0 none none none 0 0 0 0 0 0 0 ⟨0, 0, 0, 0⟩ none 0 0 none 0 0 false none 0 0 false none 0 0 0 0⟩, ⟨g4, 28, [I m, .slice A l.length ca, .slice (some ⟨bt, ot, none⟩) ts.length cb, .slice (some ⟨bn, on, none⟩) ns.length cc, I hd]⟩] ++ Lv)) mixed H ?_ ?_
    · clear H; intro w hbw6 H
      refine OPH.take 0 rfl rfl rfl rfl (by kernel_rfl) (by kernel_rfl) (by kernel_rfl) rfl (by exact H) (fun w H => Ev.mvS rfl) ?_
      refine OPH.take 1 rfl rfl rfl rfl (by kernel_rfl) (by kernel_rfl) (by kernel_rfl) rfl (by exact H) (fun w H => Ev.fieldAddr (fld_run rfl) rfl) ?_
      refine OPH.take 2 rfl rfl rfl rfl (by kernel_rfl) (by kernel_rfl) (by kernel_rfl) rfl (by exact H) (fun w H => Ev.load1 (agg_run rfl) rfl (by exact H.ldL 2 rfl _ rfl)) ?_
      refine OPH.take 3 rfl rfl rfl rfl (by kernel_rfl) (by kernel_rfl) (by kernel_rfl) rfl (by exact H) (fun w H => Ev.mvS rfl) ?_
      refine OPH.take 4 rfl rfl rfl rfl (by kernel_rfl) (by kernel_rfl) (by kernel_rfl) rfl (by exact H) (fun w H => Ev.mvI rfl) ?_
      refine OPH.take 5 rfl rfl rfl rfl (by kernel_rfl) (by kernel_rfl) (by kernel_rfl) rfl (by exact H) (fun w H => (by exact Ev.indexAddr1 (el_run rfl) (size_run rfl) rfl rfl rfl (by omega))) ?_
      refine OPH.take 6 rfl rfl rfl rfl (by kernel_rfl) (by kernel_rfl) (by kernel_rfl) rfl (by exact H) (fun w H => Ev.load1 (agg_run rfl) rfl (by exact H.ld0 (by assumption))) ?_
      refine OPH.take 7 rfl rfl rfl rfl (by kernel_rfl) (by kernel_rfl) (by kernel_rfl) rfl (by exact H) (fun w H => (by exact Ev.indexAddr (el_run rfl) (size_run rfl) rfl rfl rfl (by omega))) ?_
      refine OPH.take 8 rfl rfl rfl rfl (by kernel_rfl) (by kernel_rfl) (by kernel_rfl) rfl (by exact H) (fun w H => Ev.fieldAddr (fld_run rfl) rfl) ?_
      refine OPH.take 9 rfl rfl rfl rfl (by kernel_rfl) (by kernel_rfl) (by kernel_rfl) rfl (by exact H) (fun w H => Ev.load1 (agg_run rfl) rfl (by exact H.ld0 (by assumption))) ?_
      refine OPH.all [10] (by kernel_rfl) (by simp) rfl ?_
      intro i hi; simp only [List.mem_cons, List.not_mem_nil, or_false] at hi
      rcases hi with rfl
      · refine ⟨_, rfl, ?_⟩
        refine OPS.buildSlice rfl rfl rfl rfl (bsl_29_1_0 rfl) (Hf.toBelow hbw6) ?_
        clear H; intro g38 w E; clear Hf
        have H := (E.drop (List.sublist_cons_self _ _)).drop (L' := [_, _, _]) (List.sublist_append_left _ _)
        refine OPS.nil ?_
        refine ⟨(by exact H), ?_⟩
        refine OPH.all [11] (by kernel_rfl) (by simp) rfl ?_
        intro i hi; simp only [List.mem_cons, List.not_mem_nil, or_false] at hi
        rcases hi with rfl
        · refine ⟨_, rfl, ?_⟩
          refine OPS.append (m := 1) (news := [I z.node]) (R := ⟨g38, 3, [I z.node]⟩ :: [⟨g9, 54, truckCells t⟩, ⟨g8, 57, srL 0 none none none 0 0 0 0 0 0 0 ⟨0, 0, 0, 0⟩ none 0 0 none 0 0 false none 0 0 false none 0 0 0 0⟩, ⟨g4, 28, [I m, .slice A l.length ca, .slice (some ⟨bt, ot, none⟩) ts.length cb, .slice (some ⟨bn, on, none⟩) ns.length cc, I hd]⟩]) rfl rfl rfl rfl rfl (sl_run rfl) rfl rfl hOV rfl (src_own E 0 rfl) rfl (by omega) (by unfold maxLen; omega) E (List.Perm.refl _) ?_
          clear H hOV; intro V cv Lv w hOV Hf; clear E
          replace Hf := Hf.drop (List.sublist_cons_self _ _)
          have H := Hf.drop (L' := [_, _, _]) (List.sublist_append_left _ _)
          refine OPS.nil ?_
          refine ⟨(by exact H), ?_⟩
          refine OPH.take 12 rfl rfl rfl rfl (by kernel_rfl) (by kernel_rfl) (by kernel_rfl) rfl (by exact H) (fun w H => Ev.asS rfl) ?_
          refine OPH.done (by kernel_rfl) ?_
          exact ⟨(by repeat (first | exact Agree.refl _ _ | exact Agree.mix _ _ _ | refine Agree.upd rfl ?_ | refine Agree.mix2 rfl ?_)), V, cv, Lv, rfl, hOV, Hf⟩
    clear H
    rintro u w ⟨V, cv, Lv, h10, hOV, H⟩
    refine WP.know (t := 10) h10 ?_
    refine WP.region ?_
    refine OPS.val rfl rfl rfl (Ev.mvI rfl) ?_
    refine OPS.val rfl rfl rfl (Ev.add rfl rfl (by unfold fits; omega)) ?_
    refine OPS.val rfl rfl rfl (Ev.asI rfl) ?_
    refine OPS.nil ?_
    exact ⟨(by repeat (first | exact Agree.refl _ _ | exact Agree.mix _ _ _ | refine Agree.upd rfl ?_ | refine Agree.mix2 rfl ?_)), k - 1, by omega, j + 1, V, cv, Lv, by omega, rfl, rfl, by rw [htk]; exact hOV, H⟩
  have hj : j = rn.length := by simp at hc4; omega
  subst hj
  rw [List.take_of_length_le (by rw [List.length_map, nodesOf_len]; omega)] at hOV
  refine WP.exit ?_
  refine XB.hit ?_
  refine WP.seq ?_
  refine WP.region ?_
  refine OPS.val rfl rfl rfl (Ev.fieldAddr (fld_run rfl) rfl) ?_
  refine OPS.val rfl rfl rfl ((by exact Ev.loadN [_, _] (agg_run rfl) (size_run rfl) rfl ⟨H.ldL 2 rfl _ rfl, H.ldL 2 rfl _ rfl, trivial⟩)) ?_
  refine OPS.val rfl rfl rfl (Ev.mvS rfl) ?_
  refine OPS.call (d := some 44) rfl rfl rfl (EvC.func (fun_run rfl)) (hTb w V cv (hz.sh H) (hOV.ones H).1) ?_
  rintro _ w ⟨T, c, L, rfl, hT, Hc⟩
  refine ⟨_, rfl, ?_⟩
  replace H := SH.call (L1 := _) (Lv := []) (by rw [List.append_nil]; exact H.drop (List.sublist_append_left _ Lv)) Hc
  clear Hc
  simp only [List.cons_append, List.nil_append] at H
  refine OPS.val rfl rfl rfl (Ev.mvT rfl) ?_
  refine OPS.val rfl rfl rfl (Ev.extract rfl rfl) ?_
  refine OPS.val rfl rfl rfl (Ev.extract rfl rfl) ?_
  refine OPS.val rfl rfl rfl (Ev.asS rfl) ?_
  refine OPS.val rfl rfl rfl (Ev.asI rfl) ?_
  refine OPS.nil ?_
  refine WP.seq ?_
  refine WP.region ?_
  refine OPS.val rfl rfl rfl ((by exact Ev.loadO 2 H rfl (agg_run rfl) (size_run rfl) (by rfl) rfl)) ?_
  refine OPS.val rfl rfl rfl ((by exact Ev.loadO 0 H rfl (agg_run rfl) (size_run rfl) (by rfl) rfl)) ?_
  refine OPS.val rfl rfl rfl (Ev.mvS rfl) ?_
  refine OPS.val rfl rfl rfl (Ev.mvS rfl) ?_
  refine OPS.val rfl rfl rfl (Ev.mvB rfl) ?_
  refine OPS.val rfl rfl rfl (Ev.build (bld_57_0_1_2_3_4 rfl rfl rfl rfl rfl)) ?_
  refine OPS.store 1 _ rfl rfl rfl (size_run rfl) rfl (cA rfl) rfl rfl H rfl (by simp [srL]) ?_
  clear H; intro w H
  simp only [List.set_cons_zero, List.set_cons_succ] at H
  refine OPS.nil ?_
  refine WP.ret ⟨[_], ⟨(by exact resCellA 1 H rfl (agg_run rfl) (size_run rfl) (by rfl) rfl), trivial⟩, ?_⟩
  exact ⟨T, c, L, rfl, hT, H.drop ((((List.Sublist.refl _).cons _).cons _).cons _)⟩
end Go.Proofs.Ytfddebpeiilohaa

/-
  Walk: walk of the reference's search.
-/
set_option linter.all false
namespace Go.Proofs.Ytfddebpeiilohaa
open Go Go.W Go.RowKit

/-- the needs of an order of places -/
def plc (rn : List Int) (os : List Nat) : List Int := os.map fun i => rn.getD i 0
theorem goT_now (D : Nat → Nat → Int) (hd : Int) (ns : List Need) : ∀ (o : List Int) (s : TS), (goT D hd ns o s).now = s.now + ((goT D hd ns o s).driven - s.driven) + mvL ns o * hd
  | [], s => by simp [goT, mvL]
  | i :: o, s => by
    rw [goT, goT_now D hd ns o]
    have h3 : mvL ns (i :: o) = absI (needAt ns i).move + mvL ns o := by unfold mvL; simp
    rw [h3, Int.add_mul]
    simp only [visitT]
    omega
theorem plc_take {rn : List Int} {os : List Nat} {j : Nat} (h : j < os.length) : plc rn (os.take (j + 1)) = plc rn (os.take j) ++ [rn.getD os[j] 0] := by
  unfold plc; rw [List.take_succ_eq_append_getElem h, List.map_append]; rfl
set_option maxHeartbeats 4000000 in
theorem rWalk (m : Nat) (hd : Int) (q : Nat) (A B C R T O X : Option Addr) (l : List Edg) (ts : List Truck) (ns : List Need) (rn : List Int) (os : List Nat) (ca cb cc cr tc oc xl xc : Nat) (al fd : Bool) (mv sc : Int) (w0 : World) (hn : RowsAt 2 needCells w0 C ns) (hr : IntsAt w0 R rn) (hq : q < ts.length) (hk : AskOk m l ts ns hd q rn)
    (hT : TabAt w0 T m l (nodesOf ns ts[q] rn)) (hO : IntsAt w0 O (os.map fun v : Nat => (v : Int))) (hos : ∀ i ∈ os, i < rn.length) (hol : os.length ≤ 6) :
    Calls Try.prog 43 #[.agg (srL m A B C l.length ts.length ns.length ca cb cc hd ts[q] R rn.length cr T (rn.length + 1) tc al O os.length oc fd X xl xc mv sc).toArray] w0 fun e w' => ∃ (mo se : Int) (ok op : Bool), e = .returned (.tuple #[I mo, I se, .bool ok, .bool op]) ∧
      (op = true ↔ goE (roadD m l) ts[q].cap hd ns (plc rn os) (startT ts[q]) = 0) ∧ (ok = true → op = true ∧ mo = mvL ns (plc rn os) ∧ se = (goT (roadD m l) hd ns (plc rn os) (startT ts[q])).driven + roadD m l (goT (roadD m l) hd ns (plc rn os) (startT ts[q])).at_ ts[q].depot.toNat) ∧
      (ok = true ↔ op = true ∧ homeE (roadD m l (goT (roadD m l) hd ns (plc rn os) (startT ts[q])).at_ ts[q].depot.toNat) hd ts[q] (goT (roadD m l) hd ns (plc rn os) (startT ts[q])) = 0) ∧ Below w0.heap.size w0 w' := by
  have H := SH.refl w0
  have hl6 := hk.len
  have htr := hk.ok.tr ts[q] (List.getElem_mem hq)
  have hhh := hk.ok.hh
  obtain ⟨ds, hdl, hTo, hTr⟩ := hT
  generalize htt : ts[q] = t at *
  obtain ⟨dp, hdp⟩ := Int.eq_ofNat_of_zero_le htr.1.1
  have hnl := nodesOf_len ns t rn
  rw [hnl] at hdl hTo
  unfold srL
  refine Calls.ofWP Try.func43 rfl Try.results43 Try.ntmps43 rfl ?_
  refine WP.seq ?_
  refine WP.region ?_
  refine OPS.box rfl rfl rfl rfl (cA rfl) H ?_
  clear H; intro g1 w H
  refine OPS.val rfl rfl rfl (Ev.asI rfl) ?_
  refine OPS.val rfl rfl rfl (Ev.asI rfl) ?_
  refine OPS.val rfl rfl rfl (Ev.asB rfl) ?_
  refine OPS.val rfl rfl rfl (Ev.asB rfl) ?_
  refine OPS.nil ?_
  refine WP.seq ?_
  refine WP.region ?_
  refine OPS.val rfl rfl rfl (Ev.asI rfl) ?_
  refine OPS.val rfl rfl rfl (Ev.asI rfl) ?_
  refine OPS.val rfl rfl rfl (Ev.asI rfl) ?_
  refine OPS.val rfl rfl rfl (Ev.asI rfl) ?_
  refine OPS.val rfl rfl rfl (Ev.asI rfl) ?_
  refine OPS.nil ?_
  refine WP.seq ?_
  refine WP.seq ?_
  refine WP.region ?_
  refine OPS.val rfl rfl rfl (Ev.asI rfl) ?_
  refine OPS.nil ?_
  refine WP.block ?_
  refine WP.loop [2, 3, 4, 5, 6, 7, 8, 9, 11, 12, 13, 14, 15, 16, 17, 18, 19, 20, 21, 22, 23, 24, 25, 26, 27, 28, 29, 30, 31, 32, 33, 34, 35, 36, 37, 38, 39, 40, 41, 42, 43, 44, 45, 46, 47, 48, 49, 50, 51, 52, 53, 54, 55, 56, 57, 58, 59, 60, 61, 62, 63, 64, 65, 66, 67, 68, 69, 70, 71, 72, 73, 74, 75, 76, 77, 78, 79, 80, 81, 82, 83] (fun k e w' => ∃ (j a : Nat) (s : TS), j + k = os.length ∧ s = goT (roadD m l) hd ns (plc rn (os.take j)) (startT t) ∧ e 11 = I j ∧ e 6 = I a ∧ e 7 = I s.load ∧ e 8 = I s.driven ∧ e 9 = I (mvL ns (plc rn (os.take j))) ∧ (∃ h : a < (nodesOf ns t rn).length, (nodesOf ns t rn)[a] = s.at_) ∧ goE (roadD m l) t.cap hd ns (plc rn (os.take j)) (startT t) = 0 ∧ (0 ≤ s.load ∧ s.load ≤ 32) ∧ (0 ≤ s.driven ∧ s.driven ≤ 64000 * j) ∧ SH w0 [] w' [⟨g1, 57, srL m A B C l.length ts.length ns.length ca cb cc hd t R rn.length cr T (rn.length + 1) tc al O os.length oc fd X xl xc mv sc⟩]) (os.length) (⟨0, 0, startT t, by omega, rfl, rfl, rfl, rfl, rfl, rfl, ⟨by rw [hnl]; omega, rfl⟩, rfl, ⟨by show (0 : Int) ≤ 0; omega, by show (0 : Int) ≤ 32; omega⟩, ⟨by show (0 : Int) ≤ 0; omega, by show (0 : Int) ≤ _; omega⟩, H⟩) ?_
  clear H
  rintro k u w ⟨j, a, s, hkk, hs, h11, h6, h7, h8, h9, ⟨hal, han⟩, hgo, hld, hdr, H⟩
  unfold srL at H
  refine WP.know (t := 11) h11 (WP.know (t := 6) h6 (WP.know (t := 7) h7 (WP.know (t := 8) h8 (WP.know (t := 9) h9 ?_))))
  have hbd := mvL_bd (ns := ns) (fun x hx => (hk.ok.nd x hx).2.2) (plc rn (os.take j))
  have hpl0 : (plc rn (os.take j)).length = j ∨ (plc rn (os.take j)).length ≤ 6 := .inr (by unfold plc; rw [List.length_map, List.length_take]; omega)
  have hal2 : a < rn.length + 1 := by rw [hnl] at hal; exact hal
  obtain ⟨bT, oT, rfl, hcT⟩ := hTo a (by omega)
  have hrow := hTr a (by omega) hal
  rw [han] at hrow
  obtain ⟨⟨dA, dc⟩, hds⟩ : ∃ d, d = ds[a]'(by omega) := ⟨_, rfl⟩
  rw [← hds] at hcT hrow
  unfold slV at hcT
  dsimp only at hcT hrow
  have hrd : ∀ v (h : v < (nodesOf ns t rn).length), ∃ b o, dA = some ⟨b, o, none⟩ ∧ w0.cell? ⟨b, o + v, none⟩ = some (I (roadT m l s.at_ (nodesOf ns t rn)[v])) := fun v h => by
    obtain ⟨b, o, e, hc⟩ := hrow v (by unfold rowT; simpa using h)
    exact ⟨b, o, e, by simpa [rowT] using hc⟩
  have hsm : s.at_ < m := by
    rw [← han]
    rcases Nat.eq_zero_or_pos a with h0 | h0
    · subst h0; simp only [nodesOf, List.getElem_cons_zero]; omega
    · obtain ⟨a', rfl⟩ : ∃ a', a = a' + 1 := ⟨a - 1, by omega⟩
      simp only [nodesOf, List.getElem_cons_succ, List.getElem_map]
      have ha' : a' < rn.length := by omega
      have h7 := hk.inr rn[a'] (List.getElem_mem ha')
      obtain ⟨p', hp'⟩ := Int.eq_ofNat_of_zero_le h7.1
      have hp2 : p' < ns.length := by omega
      rw [hp', needAt_eq hp2]
      have := (hk.ok.nd ns[p'] (List.getElem_mem hp2)).1
      omega
  refine WP.seq ?_
  refine WP.seq ?_
  refine WP.region ?_
  refine OPS.val rfl rfl rfl (Ev.mvI rfl) ?_
  refine OPS.val rfl rfl rfl (Ev.fieldAddr (fld_run rfl) rfl) ?_
  refine OPS.val rfl rfl rfl (Ev.load1 (agg_run rfl) rfl (by exact H.ldL 0 rfl _ rfl)) ?_
  refine OPS.val rfl rfl rfl (Ev.len (el_run rfl) rfl) ?_
  refine OPS.val rfl rfl rfl (Ev.lss rfl rfl) ?_
  refine OPS.nil ?_
  refine WP.cond rfl (fun hc3 => ?_) (fun hc3 => ?_)
  · have hlt : j < os.length := by simpa using hc3
    obtain ⟨bO, oO, rfl, hcO⟩ := hO j (by simpa using hlt)
    have hpr := hos os[j] (List.getElem_mem hlt)
    have htk := plc_take (rn := rn) hlt
    simp only [List.getElem_map] at hcO
    generalize os[j] = p at hcO hpr htk
    obtain ⟨bR, oR, rfl, hcR⟩ := hr p hpr
    have hrg : rn.getD p 0 = rn[p] := getDi hpr
    rw [hrg] at htk
    have hir := hk.inr rn[p] (List.getElem_mem hpr)
    obtain ⟨i, hi⟩ := Int.eq_ofNat_of_zero_le hir.1
    have hil : i < ns.length := by omega
    have hnd := hk.ok.nd ns[i] (List.getElem_mem hil)
    obtain ⟨bn, on, rfl, hy⟩ := hn i hil
    have hnx : p + 1 < (nodesOf ns t rn).length := by rw [hnl]; omega
    have hnn : (nodesOf ns t rn)[p + 1] = ns[i].node.toNat := by
      simp only [nodesOf, List.getElem_cons_succ, List.getElem_map]
      rw [hi, needAt_eq hil]
    obtain ⟨bD, oD, hDe, hcD⟩ := hrd (p + 1) hnx
    rw [hnn] at hcD
    rw [hi] at hcR htk
    have hgoe : goE (roadD m l) t.cap hd ns (plc rn (os.take (j + 1))) (startT t) = visitE (roadT m l s.at_ ns[i].node.toNat) t.cap ns[i] s := by
      rw [htk, goE_app, if_neg (by simp [hgo]), ← hs]
      simp only [goE, goD, roadD, Int.toNat_natCast, needAt_eq hil]
      by_cases h : visitE (roadT m l s.at_ ns[i].node.toNat) t.cap ns[i] s = 0
      · simp [h]
      · simp [h]
    have hgot : goT (roadD m l) hd ns (plc rn (os.take (j + 1))) (startT t) = visitT (roadT m l s.at_ ns[i].node.toNat) hd ns[i] s := by
      rw [htk, goT_app, ← hs]
      simp only [goT, goD, roadD, Int.toNat_natCast, needAt_eq hil]
    have hmv : mvL ns (plc rn (os.take (j + 1))) = mvL ns (plc rn (os.take j)) + absI ns[i].move := by rw [htk, mvL_snoc, needAt_eq hil]
    have hdb := roadT_bd hk.ok.road hsm (show ns[i].node.toNat < m by omega)
    generalize hdD : roadT m l s.at_ ns[i].node.toNat = d at *
    generalize hzz : ns[i] = z at *
    subst hDe
    obtain ⟨q1, q2, _⟩ := hy
    have hy : cellsAt w0 bn (on + i * 2) (needCells z) := ⟨q1, q2, trivial⟩
    refine WP.skip ?_
    refine WP.seq ?_
    refine WP.block ?_
    refine WP.seq ?_
    refine WP.region ?_
    refine OPS.val rfl rfl rfl (Ev.fieldAddr (fld_run rfl) rfl) ?_
    refine OPS.val rfl rfl rfl (Ev.load1 (agg_run rfl) rfl (by exact H.ldL 0 rfl _ rfl)) ?_
    refine OPS.val rfl rfl rfl (Ev.mvI rfl) ?_
    refine OPS.val rfl rfl rfl ((by exact Ev.indexAddr1 (el_run rfl) (size_run rfl) rfl rfl rfl (by omega))) ?_
    refine OPS.val rfl rfl rfl (Ev.load1 (agg_run rfl) rfl (by exact H.ld0 (by assumption))) ?_
    refine OPS.val rfl rfl rfl (Ev.add rfl rfl (by unfold fits; omega)) ?_
    refine OPS.val rfl rfl rfl (Ev.asI rfl) ?_
    refine OPS.nil ?_
    rw [show ((p : Int) + 1) = ((p + 1 : Nat) : Int) by omega]
    refine WP.seq ?_
    refine WP.rheldC [13, 27, 28, 29, 30, 31, 32, 33, 34, 35, 36, 37, 38, 39, 40] (fun u w' => ∃ (g13 : Nat), u 13 = .pointer (some ⟨g13, 0, none⟩) ∧ SH w0 [] w' [⟨g13, 64, needCells z⟩, ⟨g1, 57, srL m A B (some ⟨bn, on, none⟩) l.length ts.length ns.length ca cb cc hd t (some ⟨bR, oR, none⟩) rn.length cr (some ⟨bT, oT, none⟩) (rn.length + 1) tc al (some ⟨bO, oO, none⟩) os.length oc fd X xl xc mv sc⟩]) mixed H ?_ ?_
    · clear H; intro w hbw6 H
      refine OPH.take 0 rfl rfl rfl rfl (by kernel_rfl) (by kernel_rfl) (by kernel_rfl) rfl (by exact H) (fun w H => Ev.fieldAddr (fld_run rfl) rfl) ?_
      refine OPH.take 1 rfl rfl rfl rfl (by kernel_rfl) (by kernel_rfl) (by kernel_rfl) rfl (by exact H) (fun w H => Ev.fieldAddr (fld_run rfl) rfl) ?_
      refine OPH.take 2 rfl rfl rfl rfl (by kernel_rfl) (by kernel_rfl) (by kernel_rfl) rfl (by exact H) (fun w H => Ev.load1 (agg_run rfl) rfl (by exact H.ldL 0 rfl _ rfl)) ?_
      refine OPH.take 3 rfl rfl rfl rfl (by kernel_rfl) (by kernel_rfl) (by kernel_rfl) rfl (by exact H) (fun w H => Ev.fieldAddr (fld_run rfl) rfl) ?_
      refine OPH.take 4 rfl rfl rfl rfl (by kernel_rfl) (by kernel_rfl) (by kernel_rfl) rfl (by exact H) (fun w H => Ev.load1 (agg_run rfl) rfl (by exact H.ldL 0 rfl _ rfl)) ?_
      refine OPH.take 5 rfl rfl rfl rfl (by kernel_rfl) (by kernel_rfl) (by kernel_rfl) rfl (by exact H) (fun w H => Ev.fieldAddr (fld_run rfl) rfl) ?_
      refine OPH.take 6 rfl rfl rfl rfl (by kernel_rfl) (by kernel_rfl) (by kernel_rfl) rfl (by exact H) (fun w H => Ev.load1 (agg_run rfl) rfl (by exact H.ldL 0 rfl _ rfl)) ?_
      refine OPH.take 7 rfl rfl rfl rfl (by kernel_rfl) (by kernel_rfl) (by kernel_rfl) rfl (by exact H) (fun w H => Ev.mvI rfl) ?_
      refine OPH.take 8 rfl rfl rfl rfl (by kernel_rfl) (by kernel_rfl) (by kernel_rfl) rfl (by exact H) (fun w H => (by exact Ev.indexAddr1 (el_run rfl) (size_run rfl) rfl rfl rfl (by omega))) ?_
      refine OPH.take 9 rfl rfl rfl rfl (by kernel_rfl) (by kernel_rfl) (by kernel_rfl) rfl (by exact H) (fun w H => Ev.load1 (agg_run rfl) rfl (by exact H.ld0 (by assumption))) ?_
      refine OPH.take 10 rfl rfl rfl rfl (by kernel_rfl) (by kernel_rfl) (by kernel_rfl) rfl (by exact H) (fun w H => (by exact Ev.indexAddr1 (el_run rfl) (size_run rfl) rfl rfl rfl (by omega))) ?_
      refine OPH.take 11 rfl rfl rfl rfl (by kernel_rfl) (by kernel_rfl) (by kernel_rfl) rfl (by exact H) (fun w H => Ev.load1 (agg_run rfl) rfl (by exact H.ld0 (by assumption))) ?_
      refine OPH.take 12 rfl rfl rfl rfl (by kernel_rfl) (by kernel_rfl) (by kernel_rfl) rfl (by exact H) (fun w H => (by exact Ev.indexAddr (el_run rfl) (size_run rfl) rfl rfl rfl (by omega))) ?_
      refine OPH.take 13 rfl rfl rfl rfl (by kernel_rfl) (by kernel_rfl) (by kernel_rfl) rfl (by exact H) (fun w H => (by refine Ev.loadN (b := bn) (o := on + i * 2) (needCells z) ?_ ?_ ?_ (cellsAt_sh H hy); exact agg_run rfl; exact size_run rfl; rfl)) ?_
      refine OPH.all [14] (by kernel_rfl) (by simp) rfl ?_
      intro i hi; simp only [List.mem_cons, List.not_mem_nil, or_false] at hi
      rcases hi with rfl
      · refine ⟨_, rfl, ?_⟩
        refine OPS.alloc rfl rfl rfl rfl (zero_run rfl) rfl H ?_
        clear H; intro g13 w E
        have H := E.drop (List.sublist_cons_self _ _)
        refine OPS.nil ?_
        refine ⟨(by exact H), ?_⟩
        refine OPH.all [15] (by kernel_rfl) (by simp) rfl ?_
        intro i hi; simp only [List.mem_cons, List.not_mem_nil, or_false] at hi
        rcases hi with rfl
        · refine ⟨_, rfl, ?_⟩
          refine OPS.store (vs := needCells z) 0 _ rfl rfl rfl (size_run rfl) rfl (cA rfl) rfl rfl E rfl (by simp) ?_
          clear H E; intro w E
          have H := E.drop (List.sublist_cons_self _ _)
          refine OPS.nil ?_
          refine ⟨(by exact H), ?_⟩
          refine OPH.done (by kernel_rfl) ?_
          exact ⟨(by repeat (first | exact Agree.refl _ _ | exact Agree.mix _ _ _ | refine Agree.upd rfl ?_ | refine Agree.mix2 rfl ?_)), g13, rfl, E⟩
    clear H
    rintro u w ⟨g13, h13, H⟩
    unfold srL at H
    refine WP.know (t := 13) h13 ?_
    refine WP.seq ?_
    refine WP.region ?_
    refine OPS.val rfl rfl rfl (Ev.mvI rfl) ?_
    refine OPS.val rfl rfl rfl (Ev.fieldAddr (fld_run rfl) rfl) ?_
    refine OPS.val rfl rfl rfl (Ev.load1 (agg_run rfl) rfl (by exact H.ldL 0 rfl _ rfl)) ?_
    refine OPS.val rfl rfl rfl (Ev.add rfl rfl (by unfold fits; omega)) ?_
    refine OPS.val rfl rfl rfl (Ev.asI rfl) ?_
    refine OPS.nil ?_
    refine WP.seq ?_
    refine WP.seq ?_
    refine WP.region ?_
    refine OPS.val rfl rfl rfl (Ev.fieldAddr (fld_run rfl) rfl) ?_
    refine OPS.val rfl rfl rfl (Ev.load1 (agg_run rfl) rfl (by exact H.ldL 1 rfl _ rfl)) ?_
    refine OPS.val rfl rfl rfl (Ev.mvI rfl) ?_
    refine OPS.val rfl rfl rfl ((by exact Ev.indexAddr1 (el_run rfl) (size_run rfl) rfl rfl rfl (by omega))) ?_
    refine OPS.val rfl rfl rfl (Ev.load1 (agg_run rfl) rfl (by exact H.ld0 (by assumption))) ?_
    refine OPS.val rfl rfl rfl (Ev.mvI rfl) ?_
    refine OPS.val rfl rfl rfl ((by exact Ev.indexAddr1 (el_run rfl) (size_run rfl) rfl rfl rfl (by omega))) ?_
    refine OPS.val rfl rfl rfl (Ev.load1 (agg_run rfl) rfl (by exact H.ld0 (by assumption))) ?_
    refine OPS.val rfl rfl rfl (Ev.lss rfl rfl) ?_
    refine OPS.val rfl rfl rfl (Ev.mvB rfl) ?_
    refine OPS.gval rfl rfl rfl rfl rfl (fun hg => Ev.mvI (by rfl)) ?_
    refine OPS.gval rfl rfl rfl rfl rfl (fun hg => Ev.lss (by exact gvE hg rfl) (by rfl)) ?_
    refine OPS.val rfl rfl rfl ((by exact Ev.pickOr rfl rfl rfl)) ?_
    refine OPS.val rfl rfl rfl (Ev.mvB rfl) ?_
    refine OPS.gval rfl rfl rfl rfl rfl (fun hg => Ev.mvI (by rfl)) ?_
    refine OPS.gval rfl rfl rfl rfl rfl (fun hg => Ev.fieldAddr (fld_run rfl) (by rfl)) ?_
    refine OPS.gval rfl rfl rfl rfl rfl (fun hg => Ev.fieldAddr (fld_run rfl) (by exact gvE hg rfl)) ?_
    refine OPS.gval rfl rfl rfl rfl rfl (fun hg => Ev.load1 (agg_run rfl) (by exact gvE hg rfl) (by exact H.ldL 1 rfl _ rfl)) ?_
    refine OPS.gval rfl rfl rfl rfl rfl (fun hg => Ev.gtr (by exact gvE hg rfl) (by exact gvE hg rfl)) ?_
    refine OPS.val rfl rfl rfl ((by exact Ev.pickOr rfl rfl rfl)) ?_
    refine OPS.nil ?_
    refine WP.cond rfl (fun hc8 => ?_) (fun hc8 => ?_)
    · refine WP.seq ?_
      refine WP.region ?_
      refine OPS.val rfl rfl rfl (Ev.asI rfl) ?_
      refine OPS.val rfl rfl rfl (Ev.asI rfl) ?_
      refine OPS.val rfl rfl rfl (Ev.asB rfl) ?_
      refine OPS.val rfl rfl rfl (Ev.asB rfl) ?_
      refine OPS.nil ?_
      refine WP.ret ⟨_, rfl, ?_⟩
      have hv : visitE d t.cap z s ≠ 0 := by
        unfold visitE inB
        by_cases hd0 : d < 0
        · rw [if_pos hd0]; decide
        · rw [if_neg hd0, if_neg]
          · decide
          · simp at hc8 ⊢; omega
      have hfull : goE (roadD m l) t.cap hd ns (plc rn os) (startT t) ≠ 0 := by
        rw [show plc rn os = plc rn (os.take (j + 1)) ++ plc rn (os.drop (j + 1)) by unfold plc; rw [← List.map_append, List.take_append_drop], goE_app, hgoe, if_pos hv]; exact hv
      exact ⟨0, 0, false, false, rfl, by simp [hfull], by simp, by simp, H.below⟩
    have hb8 : ¬ d < 0 ∧ 0 ≤ s.load + z.move ∧ s.load + z.move ≤ t.cap := by simp at hc8; omega
    have hv : visitE d t.cap z s = 0 := by
      unfold visitE inB
      rw [if_neg hb8.1, if_pos]
      simp; omega
    refine WP.skip ?_
    refine WP.seq ?_
    refine WP.region ?_
    refine OPS.val rfl rfl rfl (Ev.mvI rfl) ?_
    refine OPS.val rfl rfl rfl (Ev.fieldAddr (fld_run rfl) rfl) ?_
    refine OPS.val rfl rfl rfl (Ev.load1 (agg_run rfl) rfl (by exact H.ldL 1 rfl _ rfl)) ?_
    refine OPS.val rfl rfl rfl (Ev.mvI rfl) ?_
    refine OPS.val rfl rfl rfl ((by exact Ev.indexAddr1 (el_run rfl) (size_run rfl) rfl rfl rfl (by omega))) ?_
    refine OPS.val rfl rfl rfl (Ev.load1 (agg_run rfl) rfl (by exact H.ld0 (by assumption))) ?_
    refine OPS.val rfl rfl rfl (Ev.mvI rfl) ?_
    refine OPS.val rfl rfl rfl ((by exact Ev.indexAddr1 (el_run rfl) (size_run rfl) rfl rfl rfl (by omega))) ?_
    refine OPS.val rfl rfl rfl (Ev.load1 (agg_run rfl) rfl (by exact H.ld0 (by assumption))) ?_
    refine OPS.val rfl rfl rfl (Ev.add rfl rfl (by unfold fits; omega)) ?_
    refine OPS.val rfl rfl rfl (Ev.asI rfl) ?_
    refine OPS.nil ?_
    refine WP.seq ?_
    refine WP.region ?_
    refine OPS.val rfl rfl rfl (Ev.mvI rfl) ?_
    refine OPS.val rfl rfl rfl (Ev.fieldAddr (fld_run rfl) rfl) ?_
    refine OPS.val rfl rfl rfl (Ev.load1 (agg_run rfl) rfl (by exact H.ldL 0 rfl _ rfl)) ?_
    refine OPS.val rfl rfl rfl (Ev.fieldAddr (fld_run rfl) rfl) ?_
    refine OPS.val rfl rfl rfl (Ev.load1 (agg_run rfl) rfl (by exact H.ldL 0 rfl _ rfl)) ?_
    refine OPS.val rfl rfl rfl (Ev.neg rfl (by unfold fits; omega)) ?_
    refine OPS.val rfl rfl rfl (Ev.max rfl rfl) ?_
    refine OPS.val rfl rfl rfl (Ev.add rfl rfl (by unfold fits; omega)) ?_
    refine OPS.val rfl rfl rfl (Ev.asI rfl) ?_
    refine OPS.nil ?_
    refine WP.region ?_
    refine OPS.val rfl rfl rfl (Ev.mvI rfl) ?_
    refine OPS.val rfl rfl rfl (Ev.asI rfl) ?_
    refine OPS.nil ?_
    refine WP.region ?_
    refine OPS.val rfl rfl rfl (Ev.mvI rfl) ?_
    refine OPS.val rfl rfl rfl (Ev.add rfl rfl (by unfold fits; omega)) ?_
    refine OPS.val rfl rfl rfl (Ev.asI rfl) ?_
    refine OPS.nil ?_
    exact ⟨(by repeat (first | exact Agree.refl _ _ | exact Agree.mix _ _ _ | refine Agree.upd rfl ?_ | refine Agree.mix2 rfl ?_)), k - 1, by omega, j + 1, p + 1, visitT d hd z s, by omega, hgot.symm, rfl, rfl, rfl, rfl, (by rw [hmv]; rfl), ⟨hnx, hnn⟩, by rw [hgoe]; exact hv, ⟨hb8.2.1, by show s.load + z.move ≤ 32; omega⟩, ⟨by show 0 ≤ s.driven + d; omega, by show s.driven + d ≤ _; omega⟩, H.drop (List.sublist_cons_self _ _)⟩
  have hj : j = os.length := by simp at hc3; omega
  subst hj
  rw [List.take_length] at hs hgo hbd hpl0
  rw [List.take_length]
  have hpl6 : (plc rn os).length ≤ 6 := by unfold plc; rw [List.length_map]; omega
  have hm0 : 0 ≤ (mvL ns (plc rn os) + s.load) * hd := Int.mul_nonneg (by omega) hhh.1
  have hm1 : (mvL ns (plc rn os) + s.load) * hd ≤ 1000000 := by
    calc (mvL ns (plc rn os) + s.load) * hd ≤ 224 * hd := Int.mul_le_mul_of_nonneg_right (by omega) hhh.1
      _ ≤ 1000000 := by omega
  have hmd : (mvL ns (plc rn os) + s.load) * hd = mvL ns (plc rn os) * hd + s.load * hd := Int.add_mul _ _ _
  have hnow := goT_now (roadD m l) hd ns (plc rn os) (startT t)
  rw [← hs] at hnow
  have hst : (startT t).now = t.from_ ∧ (startT t).driven = 0 := ⟨rfl, rfl⟩
  obtain ⟨bD, oD, hDe, hcD⟩ := hrd 0 (by omega)
  have hn0 : (nodesOf ns t rn)[0]'(by omega) = t.depot.toNat := rfl
  rw [hn0] at hcD
  have hdd : roadD m l s.at_ t.depot.toNat = roadT m l s.at_ t.depot.toNat := rfl
  have hdb := roadT_bd hk.ok.road hsm (show t.depot.toNat < m by omega)
  rw [← hs, hdd]
  generalize roadT m l s.at_ t.depot.toNat = d at *
  subst hDe
  refine WP.exit ?_
  refine XB.hit ?_
  refine WP.seq ?_
  refine WP.region ?_
  refine OPS.val rfl rfl rfl (Ev.mvI rfl) ?_
  refine OPS.val rfl rfl rfl (Ev.mvI rfl) ?_
  refine OPS.val rfl rfl rfl (Ev.add rfl rfl (by unfold fits; omega)) ?_
  refine OPS.val rfl rfl rfl (Ev.fieldAddr (fld_run rfl) rfl) ?_
  refine OPS.val rfl rfl rfl (Ev.fieldAddr (fld_run rfl) rfl) ?_
  refine OPS.val rfl rfl rfl (Ev.load1 (agg_run rfl) rfl (by exact H.ldL 0 rfl _ rfl)) ?_
  refine OPS.val rfl rfl rfl (Ev.mul rfl rfl (by unfold fits; omega)) ?_
  refine OPS.val rfl rfl rfl (Ev.asI rfl) ?_
  refine OPS.nil ?_
  refine WP.seq ?_
  refine WP.seq ?_
  refine WP.region ?_
  refine OPS.val rfl rfl rfl (Ev.fieldAddr (fld_run rfl) rfl) ?_
  refine OPS.val rfl rfl rfl (Ev.load1 (agg_run rfl) rfl (by exact H.ldL 0 rfl _ rfl)) ?_
  refine OPS.val rfl rfl rfl (Ev.mvI rfl) ?_
  refine OPS.val rfl rfl rfl ((by exact Ev.indexAddr1 (el_run rfl) (size_run rfl) rfl rfl rfl (by omega))) ?_
  refine OPS.val rfl rfl rfl (Ev.load1 (agg_run rfl) rfl (by exact H.ld0 (by assumption))) ?_
  refine OPS.val rfl rfl rfl (Ev.indexAddr1 (j := 0) (el_run rfl) (size_run rfl) rfl rfl rfl (by omega)) ?_
  refine OPS.val rfl rfl rfl (Ev.load1 (agg_run rfl) rfl (by exact H.ld0 (by assumption))) ?_
  refine OPS.val rfl rfl rfl (Ev.lss rfl rfl) ?_
  refine OPS.nil ?_
  refine WP.cond rfl (fun hc14 => ?_) (fun hc14 => ?_)
  · refine WP.seq ?_
    refine WP.region ?_
    refine OPS.val rfl rfl rfl (Ev.asI rfl) ?_
    refine OPS.val rfl rfl rfl (Ev.asI rfl) ?_
    refine OPS.val rfl rfl rfl (Ev.asB rfl) ?_
    refine OPS.val rfl rfl rfl (Ev.asB rfl) ?_
    refine OPS.nil ?_
    refine WP.ret ⟨_, rfl, ?_⟩
    have hd0 : d < 0 := by simpa using hc14
    exact ⟨0, 0, false, true, rfl, by simp [hgo], by simp, by unfold homeE; simp [hd0], H.below⟩
  have hd0 : ¬ d < 0 := by simpa using hc14
  refine WP.skip ?_
  refine WP.seq ?_
  refine WP.region ?_
  refine OPS.val rfl rfl rfl (Ev.mvI rfl) ?_
  refine OPS.val rfl rfl rfl (Ev.fieldAddr (fld_run rfl) rfl) ?_
  refine OPS.val rfl rfl rfl (Ev.load1 (agg_run rfl) rfl (by exact H.ldL 0 rfl _ rfl)) ?_
  refine OPS.val rfl rfl rfl (Ev.mvI rfl) ?_
  refine OPS.val rfl rfl rfl ((by exact Ev.indexAddr1 (el_run rfl) (size_run rfl) rfl rfl rfl (by omega))) ?_
  refine OPS.val rfl rfl rfl (Ev.load1 (agg_run rfl) rfl (by exact H.ld0 (by assumption))) ?_
  refine OPS.val rfl rfl rfl (Ev.indexAddr1 (j := 0) (el_run rfl) (size_run rfl) rfl rfl rfl (by omega)) ?_
  refine OPS.val rfl rfl rfl (Ev.load1 (agg_run rfl) rfl (by exact H.ld0 (by assumption))) ?_
  refine OPS.val rfl rfl rfl (Ev.add rfl rfl (by unfold fits; omega)) ?_
  refine OPS.val rfl rfl rfl (Ev.asI rfl) ?_
  refine OPS.nil ?_
  refine WP.seq ?_
  refine WP.rstill mixed (by kernel_rfl) H ?_
  clear H; intro w hbw17 H
  refine OPS.val rfl rfl rfl (Ev.mvI rfl) ?_
  refine OPS.val rfl rfl rfl (Ev.mvI rfl) ?_
  refine OPS.val rfl rfl rfl (Ev.fieldAddr (fld_run rfl) rfl) ?_
  refine OPS.val rfl rfl rfl (Ev.fieldAddr (fld_run rfl) rfl) ?_
  refine OPS.val rfl rfl rfl (Ev.fieldAddr (fld_run rfl) rfl) ?_
  refine OPS.val rfl rfl rfl (Ev.load1 (agg_run rfl) rfl (by exact H.ldL 0 rfl _ rfl)) ?_
  refine OPS.val rfl rfl rfl (Ev.mvI rfl) ?_
  refine OPS.val rfl rfl rfl (Ev.add rfl rfl (by unfold fits; omega)) ?_
  refine OPS.val rfl rfl rfl (Ev.mvI rfl) ?_
  refine OPS.val rfl rfl rfl (Ev.add rfl rfl (by unfold fits; omega)) ?_
  refine OPS.val rfl rfl rfl (Ev.fieldAddr (fld_run rfl) rfl) ?_
  refine OPS.val rfl rfl rfl (Ev.fieldAddr (fld_run rfl) rfl) ?_
  refine OPS.val rfl rfl rfl (Ev.fieldAddr (fld_run rfl) rfl) ?_
  refine OPS.val rfl rfl rfl (Ev.load1 (agg_run rfl) rfl (by exact H.ldL 0 rfl _ rfl)) ?_
  refine OPS.val rfl rfl rfl (Ev.leq rfl rfl) ?_
  refine OPS.val rfl rfl rfl (Ev.asI rfl) ?_
  refine OPS.val rfl rfl rfl (Ev.asI rfl) ?_
  refine OPS.val rfl rfl rfl (Ev.asB rfl) ?_
  refine OPS.val rfl rfl rfl (Ev.asB rfl) ?_
  refine OPS.nil_s ?_
  refine WP.ret ⟨_, rfl, ?_⟩
  refine ⟨_, _, _, _, rfl, by simp [hgo], fun _ => ⟨rfl, rfl, rfl⟩, ?_, H.below⟩
  unfold homeE
  rw [if_neg hd0]
  simp
  omega
end Go.Proofs.Ytfddebpeiilohaa

/-
  Walk: numbers of the reference's search.
-/
set_option linter.all false
namespace Go.Proofs.Ytfddebpeiilohaa
open Go Go.W Go.RowKit

set_option maxHeartbeats 2000000 in
theorem rNumbers (n hd : Int) (A B C R T O X : Option Addr) (ll tl nl : Nat) (t : Truck) (rn : List Int) (os : List Nat) (ca cb cc cr tn tc oc xl xc : Nat) (al fd : Bool) (mv sc : Int) (w0 : World) (hr : IntsAt w0 R rn) (hO : IntsAt w0 O (os.map fun v : Nat => (v : Int))) (hos : ∀ i ∈ os, i < rn.length) (hol : os.length ≤ 6) :
    Calls Try.prog 44 #[.agg (srL n A B C ll tl nl ca cb cc hd t R rn.length cr T tn tc al O os.length oc fd X xl xc mv sc).toArray] w0 fun e w' => ∃ (V : Option Addr) (c : Nat) (L : List Blk), e = .returned (.slice V os.length c) ∧ OwnS V c os.length ((plc rn os).map I) 3 1 L ∧ SH w0 [] w' L := by
  have H := SH.refl w0
  unfold srL
  refine Calls.ofWP Try.func44 rfl Try.results44 Try.ntmps44 rfl ?_
  refine WP.seq ?_
  refine WP.region ?_
  refine OPS.box rfl rfl rfl rfl (cA rfl) H ?_
  clear H; intro g1 w H
  refine OPS.val rfl rfl rfl (Ev.asS rfl) ?_
  refine OPS.nil ?_
  refine WP.seq ?_
  refine WP.region ?_
  refine OPS.val rfl rfl rfl (Ev.asS rfl) ?_
  refine OPS.nil ?_
  refine WP.seq ?_
  refine WP.seq ?_
  refine WP.region ?_
  refine OPS.val rfl rfl rfl (Ev.asI rfl) ?_
  refine OPS.nil ?_
  refine WP.block ?_
  refine WP.loop [3, 4, 5, 6, 7, 8, 9, 10, 11, 12, 13, 14, 15, 16, 17, 18, 19, 20, 21, 22, 23] (fun k e w' => ∃ (j : Nat) (V : Option Addr) (c : Nat) (L : List Blk), j + k = os.length ∧ e 4 = I j ∧ e 3 = .slice V j c ∧ OwnS V c j ((plc rn (os.take j)).map I) 3 1 L ∧ SH w0 [] w' ([⟨g1, 57, srL n A B C ll tl nl ca cb cc hd t R rn.length cr T tn tc al O os.length oc fd X xl xc mv sc⟩] ++ L)) (os.length) (⟨0, none, 0, [], by omega, rfl, rfl, OwnS.nil, H⟩) ?_
  clear H
  rintro k u w ⟨j, V, c, L, hkk, h4, h3, hOV, H⟩
  unfold srL at H
  refine WP.know (t := 4) h4 (WP.know (t := 3) h3 ?_)
  refine WP.seq ?_
  refine WP.seq ?_
  refine WP.region ?_
  refine OPS.val rfl rfl rfl (Ev.mvI rfl) ?_
  refine OPS.val rfl rfl rfl (Ev.fieldAddr (fld_run rfl) rfl) ?_
  refine OPS.val rfl rfl rfl (Ev.load1 (agg_run rfl) rfl (by exact H.ldL 0 rfl _ rfl)) ?_
  refine OPS.val rfl rfl rfl (Ev.len (el_run rfl) rfl) ?_
  refine OPS.val rfl rfl rfl (Ev.lss rfl rfl) ?_
  refine OPS.nil ?_
  refine WP.cond rfl (fun hc3 => ?_) (fun hc3 => ?_)
  · have hlt : j < os.length := by simpa using hc3
    obtain ⟨bO, oO, rfl, hcO⟩ := hO j (by simpa using hlt)
    have hpr := hos os[j] (List.getElem_mem hlt)
    have htk := plc_take (rn := rn) hlt
    simp only [List.getElem_map] at hcO
    generalize os[j] = p at hcO hpr htk
    obtain ⟨bR, oR, rfl, hcR⟩ := hr p hpr
    have hrg : rn.getD p 0 = rn[p] := getDi hpr
    rw [hrg] at htk
    have Hf := H
    replace H := H.drop (L' := [_]) (List.sublist_append_left _ _)
    refine WP.skip ?_
    refine WP.seq ?_
    refine WP.block ?_
    refine WP.rheldC [3, 12, 13, 14, 15, 16, 17, 18, 19, 20, 21, 22, 23] (fun u w' => ∃ (V : Option Addr) (c : Nat) (L : List Blk), u 3 = .slice V (j + 1) c ∧ OwnS V c (j + 1) ((plc rn (os.take j)).map I ++ [I rn[p]]) 3 1 L ∧ SH w0 [] w' ([⟨g1, 57, srL n A B C ll tl nl ca cb cc hd t (some ⟨bR, oR, none⟩) rn.length cr T tn tc al (some ⟨bO, oO, none⟩) os.length oc fd X xl xc mv sc⟩] ++ L)) mixed H ?_ ?_
    · clear H; intro w hbw5 H
      refine OPH.take 0 rfl rfl rfl rfl (by kernel_rfl) (by kernel_rfl) (by kernel_rfl) rfl (by exact H) (fun w H => Ev.mvS rfl) ?_
      refine OPH.take 1 rfl rfl rfl rfl (by kernel_rfl) (by kernel_rfl) (by kernel_rfl) rfl (by exact H) (fun w H => Ev.fieldAddr (fld_run rfl) rfl) ?_
      refine OPH.take 2 rfl rfl rfl rfl (by kernel_rfl) (by kernel_rfl) (by kernel_rfl) rfl (by exact H) (fun w H => Ev.load1 (agg_run rfl) rfl (by exact H.ldL 0 rfl _ rfl)) ?_
      refine OPH.take 3 rfl rfl rfl rfl (by kernel_rfl) (by kernel_rfl) (by kernel_rfl) rfl (by exact H) (fun w H => Ev.fieldAddr (fld_run rfl) rfl) ?_
      refine OPH.take 4 rfl rfl rfl rfl (by kernel_rfl) (by kernel_rfl) (by kernel_rfl) rfl (by exact H) (fun w H => Ev.load1 (agg_run rfl) rfl (by exact H.ldL 0 rfl _ rfl)) ?_
      refine OPH.take 5 rfl rfl rfl rfl (by kernel_rfl) (by kernel_rfl) (by kernel_rfl) rfl (by exact H) (fun w H => Ev.mvI rfl) ?_
      refine OPH.take 6 rfl rfl rfl rfl (by kernel_rfl) (by kernel_rfl) (by kernel_rfl) rfl (by exact H) (fun w H => (by exact Ev.indexAddr1 (el_run rfl) (size_run rfl) rfl rfl rfl (by omega))) ?_
      refine OPH.take 7 rfl rfl rfl rfl (by kernel_rfl) (by kernel_rfl) (by kernel_rfl) rfl (by exact H) (fun w H => Ev.load1 (agg_run rfl) rfl (by exact H.ld0 (by assumption))) ?_
      refine OPH.take 8 rfl rfl rfl rfl (by kernel_rfl) (by kernel_rfl) (by kernel_rfl) rfl (by exact H) (fun w H => (by exact Ev.indexAddr1 (el_run rfl) (size_run rfl) rfl rfl rfl (by omega))) ?_
      refine OPH.take 9 rfl rfl rfl rfl (by kernel_rfl) (by kernel_rfl) (by kernel_rfl) rfl (by exact H) (fun w H => Ev.load1 (agg_run rfl) rfl (by exact H.ld0 (by assumption))) ?_
      refine OPH.all [10] (by kernel_rfl) (by simp) rfl ?_
      intro i hi; simp only [List.mem_cons, List.not_mem_nil, or_false] at hi
      rcases hi with rfl
      · refine ⟨_, rfl, ?_⟩
        refine OPS.buildSlice rfl rfl rfl rfl (bsl_29_1_0 rfl) (Hf.toBelow hbw5) ?_
        clear H; intro g22 w E; clear Hf
        have H := (E.drop (List.sublist_cons_self _ _)).drop (L' := [_]) (List.sublist_append_left _ _)
        refine OPS.nil ?_
        refine ⟨(by exact H), ?_⟩
        refine OPH.all [11] (by kernel_rfl) (by simp) rfl ?_
        intro i hi; simp only [List.mem_cons, List.not_mem_nil, or_false] at hi
        rcases hi with rfl
        · refine ⟨_, rfl, ?_⟩
          refine OPS.append (m := 1) (news := [I rn[p]]) (R := ⟨g22, 3, [I rn[p]]⟩ :: [⟨g1, 57, srL n A B C ll tl nl ca cb cc hd t (some ⟨bR, oR, none⟩) rn.length cr T tn tc al (some ⟨bO, oO, none⟩) os.length oc fd X xl xc mv sc⟩]) rfl rfl rfl rfl rfl (sl_run rfl) rfl rfl hOV rfl (src_own E 0 rfl) rfl (by omega) (by unfold maxLen; omega) E (List.Perm.refl _) ?_
          clear H hOV; intro V c L w hOV Hf; clear E
          replace Hf := Hf.drop (List.sublist_cons_self _ _)
          have H := Hf.drop (L' := [_]) (List.sublist_append_left _ _)
          refine OPS.nil ?_
          refine ⟨(by exact H), ?_⟩
          refine OPH.take 12 rfl rfl rfl rfl (by kernel_rfl) (by kernel_rfl) (by kernel_rfl) rfl (by exact H) (fun w H => Ev.asS rfl) ?_
          refine OPH.done (by kernel_rfl) ?_
          exact ⟨(by repeat (first | exact Agree.refl _ _ | exact Agree.mix _ _ _ | refine Agree.upd rfl ?_ | refine Agree.mix2 rfl ?_)), V, c, L, rfl, hOV, Hf⟩
    clear H
    rintro u w ⟨V, c, L, h3, hOV, H⟩
    refine WP.know (t := 3) h3 ?_
    refine WP.region ?_
    refine OPS.val rfl rfl rfl (Ev.mvI rfl) ?_
    refine OPS.val rfl rfl rfl (Ev.add rfl rfl (by unfold fits; omega)) ?_
    refine OPS.val rfl rfl rfl (Ev.asI rfl) ?_
    refine OPS.nil ?_
    exact ⟨(by repeat (first | exact Agree.refl _ _ | exact Agree.mix _ _ _ | refine Agree.upd rfl ?_ | refine Agree.mix2 rfl ?_)), k - 1, by omega, j + 1, V, c, L, by omega, rfl, rfl, by rw [htk, List.map_append]; exact hOV, H⟩
  refine WP.exit ?_
  refine XB.hit ?_
  refine WP.seq ?_
  refine WP.region ?_
  refine OPS.val rfl rfl rfl (Ev.mvS rfl) ?_
  refine OPS.val rfl rfl rfl (Ev.asS rfl) ?_
  refine OPS.nil ?_
  refine WP.ret ⟨_, rfl, ?_⟩
  have hj : j = os.length := by simp at hc3; omega
  subst hj
  rw [List.take_length] at hOV
  exact ⟨V, c, L, rfl, hOV, H.drop (List.sublist_append_right _ _)⟩
end Go.Proofs.Ytfddebpeiilohaa

/-
  Plain: the orders that begin with an order.
-/
set_option linter.all false
namespace Go.Proofs.Ytfddebpeiilohaa
open Go Go.W Go.RowKit

section
variable (n : Int) (l : List Edg) (ts : List Truck) (ns : List Need) (hd rt : Int) (rn : List Int) (al : Bool)
def ExtP (os : List Nat) (o : List Int) : Prop := ∃ os' : List Nat, os <+: os' ∧ os'.Nodup ∧ (∀ i ∈ os', i < rn.length) ∧ (al = true → os'.length = rn.length) ∧ o = plc rn os' ∧ walkE n l ts ns hd rt o = 0
def OwnP (os : List Nat) (o : List Int) : Prop := (al = true → os.length = rn.length) ∧ o = plc rn os ∧ walkE n l ts ns hd rt o = 0
variable {n l ts ns hd rt rn al}
theorem ext_split {os : List Nat} (hnd : os.Nodup) (hin : ∀ i ∈ os, i < rn.length) (o : List Int) : ExtP n l ts ns hd rt rn al os o ↔ OwnP n l ts ns hd rt rn al os o ∨ ∃ i, i < rn.length ∧ i ∉ os ∧ ExtP n l ts ns hd rt rn al (os ++ [i]) o := by
  constructor
  · rintro ⟨os', ⟨t, rfl⟩, h1, h2, h3, h4, h5⟩
    cases t with
    | nil => rw [List.append_nil] at *; exact .inl ⟨h3, h4, h5⟩
    | cons i t =>
      refine .inr ⟨i, h2 i (by simp), fun hm => ?_, os ++ i :: t, ⟨t, by simp⟩, h1, h2, h3, h4, h5⟩
      rw [List.nodup_append] at h1
      exact h1.2.2 i hm i (by simp) rfl
  · rintro (⟨h1, h2, h3⟩ | ⟨i, hi, hni, os', ⟨t, rfl⟩, h1, h2, h3, h4, h5⟩)
    · exact ⟨os, List.prefix_refl _, hnd, hin, h1, h2, h3⟩
    · exact ⟨os ++ [i] ++ t, ⟨[i] ++ t, by simp⟩, h1, h2, h3, h4, h5⟩
end
theorem plc_nodup {rn : List Int} (hr : rn.Nodup) : ∀ {os : List Nat}, (∀ i ∈ os, i < rn.length) → ((plc rn os).Nodup ↔ os.Nodup) := fun {os} h => by
  unfold plc
  rw [List.nodup_iff_pairwise_ne, List.nodup_iff_pairwise_ne, List.pairwise_map]
  constructor
  · intro hp
    exact hp.imp fun hne he => hne (by rw [he])
  · intro hp
    refine List.Pairwise.imp_of_mem ?_ hp
    intro a b ha hb hne he
    rw [getDi (h a ha), getDi (h b hb)] at he
    exact hne ((List.getElem_inj hr).1 he)
theorem plc_mem {rn : List Int} {os : List Nat} (h : ∀ i ∈ os, i < rn.length) : ∀ x ∈ plc rn os, x ∈ rn := fun x hx => by
  obtain ⟨i, hi, rfl⟩ := List.mem_map.1 hx
  show rn.getD i 0 ∈ rn
  rw [getDi (h i hi)]; exact List.getElem_mem _
theorem plc_of {rn : List Int} : ∀ (o : List Int), (∀ x ∈ o, x ∈ rn) → ∃ os : List Nat, (∀ i ∈ os, i < rn.length) ∧ o = plc rn os
  | [], _ => ⟨[], by simp, rfl⟩
  | x :: o, h => by
    obtain ⟨os, h1, rfl⟩ := plc_of o fun y hy => h y (List.mem_cons_of_mem _ hy)
    obtain ⟨i, hi, he⟩ := List.mem_iff_getElem.1 (h x List.mem_cons_self)
    refine ⟨i :: os, fun j hj => ?_, by unfold plc; rw [List.map_cons, getDi hi, he]⟩
    rcases List.mem_cons.1 hj with rfl | hj
    · exact hi
    · exact h1 j hj
section
variable {m : Nat} {l : List Edg} {ts : List Truck} {ns : List Need} {hd rt : Int} {rn : List Int}
theorem ext_all (hk : AskOk m l ts ns hd rt rn) (o : List Int) : ExtP m l ts ns hd rt rn true [] o ↔ CandP m l ts ns hd rt rn o := by
  unfold ExtP CandP
  constructor
  · rintro ⟨os, _, h1, h2, h3, rfl, h5⟩
    exact ⟨sub_full hk.nd ((plc_nodup hk.nd h2).2 h1) (plc_mem h2) (by unfold plc; rw [List.length_map]; exact h3 rfl), h5⟩
  · rintro ⟨h1, h2⟩
    obtain ⟨os, h3, rfl⟩ := plc_of (rn := rn) o (fun x hx => h1.mem_iff.1 hx)
    exact ⟨os, List.nil_prefix, (plc_nodup hk.nd h3).1 (h1.nodup_iff.2 hk.nd), h3, fun _ => by have := h1.length_eq; unfold plc at this; simpa using this, rfl, h2⟩
theorem ext_some (hk : AskOk m l ts ns hd rt rn) (o : List Int) : ExtP m l ts ns hd rt rn false [] o ↔ SubP m l ts ns hd rt rn o := by
  unfold ExtP SubP
  constructor
  · rintro ⟨os, _, h1, h2, _, rfl, h5⟩
    exact ⟨⟨(plc_nodup hk.nd h2).2 h1, plc_mem h2⟩, h5⟩
  · rintro ⟨⟨h1, h2⟩, h3⟩
    obtain ⟨os, h4, rfl⟩ := plc_of (rn := rn) o h2
    exact ⟨os, List.nil_prefix, (plc_nodup hk.nd h4).1 h1, h4, (fun h => absurd h (by simp)), rfl, h3⟩
end
end Go.Proofs.Ytfddebpeiilohaa

/-
  Plain: feasible, said of the walk.
-/
set_option linter.all false
namespace Go.Proofs.Ytfddebpeiilohaa
open Go Go.W Go.RowKit

section
variable {m : Nat} {l : List Edg} {ts : List Truck} {ns : List Need} {hd : Int} {q : Nat} {rn : List Int}
theorem AskOk.route (hk : AskOk m l ts ns hd q rn) {o : List Int} (h1 : o.Nodup) (h2 : ∀ i ∈ o, i ∈ rn) : routeErr ts ns q o = 0 := by
  have ht := hk.tr
  unfold routeErr
  rw [if_neg, if_neg (by unfold twiceB; simpa using h1)]
  rintro (h | h)
  · rw [outB_or] at h; simp at h; omega
  · obtain ⟨i, h3, h4⟩ := List.any_eq_true.1 h
    have := hk.inr i (h2 i h3)
    rw [outB_or] at h4; simp at h4; omega
theorem walkE_iff (hk : AskOk m l ts ns hd q rn) (hq : q < ts.length) {o : List Int} (h1 : o.Nodup) (h2 : ∀ i ∈ o, i ∈ rn) :
    walkE m l ts ns hd q o = 0 ↔ goE (roadD m l) ts[q].cap hd ns o (startT ts[q]) = 0 ∧ homeE (roadD m l (goT (roadD m l) hd ns o (startT ts[q])).at_ ts[q].depot.toNat) hd ts[q] (goT (roadD m l) hd ns o (startT ts[q])) = 0 := by
  have hgt : ts.getD (q : Int).toNat default = ts[q] := by simp [hq]
  rw [walkE, if_neg (by rw [hk.night]; decide), if_neg (by rw [hk.route h1 h2]; decide)]
  unfold endT
  rw [hgt]
  by_cases hg : goE (roadD m l) ts[q].cap hd ns o (startT ts[q]) = 0
  · simp [hg]
  · simp [hg]
theorem secsD_eq (hq : q < ts.length) {o : List Int} (h : walkE m l ts ns hd q o = 0) : secsD m l ts ns hd q o = (goT (roadD m l) hd ns o (startT ts[q])).driven + roadD m l (goT (roadD m l) hd ns o (startT ts[q])).at_ ts[q].depot.toNat := by
  have hgt : ts.getD (q : Int).toNat default = ts[q] := by simp [hq]
  unfold secsD
  rw [outD, if_pos h]
  unfold walkT endT
  rw [hgt]; rfl
theorem ext_closed (hk : AskOk m l ts ns hd q rn) (hq : q < ts.length) {al : Bool} {os : List Nat} (hg : goE (roadD m l) ts[q].cap hd ns (plc rn os) (startT ts[q]) ≠ 0) (o : List Int) : ¬ ExtP m l ts ns hd q rn al os o := by
  rintro ⟨os', ⟨t, rfl⟩, h1, h2, _, rfl, h5⟩
  have h6 := (walkE_iff hk hq ((plc_nodup hk.nd h2).2 h1) (plc_mem h2)).1 h5
  have h7 : plc rn (os ++ t) = plc rn os ++ plc rn t := by unfold plc; rw [List.map_append]
  rw [h7, goE_app, if_pos hg] at h6
  exact hg h6.1
end
end Go.Proofs.Ytfddebpeiilohaa
