/-
  Walks: twice, IsSorted, Check of a night.
-/
import Derived.Test.YtfddebpeiilohaaT6
set_option linter.all false
namespace Go.Proofs.Ytfddebpeiilohaa
open Go Go.W Go.RowKit

theorem onesTk {α : Type} {enc : α → Value} {w : World} {A : Option Addr} {l : List α} (h : OnesAt enc w A l) (j : Nat) : OnesAt enc w A (l.take j) := fun k hk => by
  obtain ⟨b, o, h1, h2⟩ := h k (by simp at hk; omega)
  exact ⟨b, o, h1, by rw [List.getElem_take]; exact h2⟩
theorem rowsTk {α : Type} {sz : Nat} {enc : α → List Value} {w : World} {A : Option Addr} {l : List α} (h : RowsAt sz enc w A l) (j : Nat) : RowsAt sz enc w A (l.take j) := fun k hk => by
  obtain ⟨b, o, h1, h2⟩ := h k (by simp at hk; omega)
  exact ⟨b, o, h1, by rw [List.getElem_take]; exact h2⟩
theorem slContainsT (A : Option Addr) (l : List Int) (j cap : Nat) (x : Int) (w0 : World) (hz : IntsAt w0 A l) (hj : j ≤ l.length) (hl : l.length ≤ maxLen) :
    Calls Try.prog 70 #[.slice A j cap, I x] w0 fun e w' => e = .returned (.bool (decide (x ∈ l.take j))) ∧ Below w0.heap.size w0 w' := by
  have h := slContains A (l.take j) cap x w0 (onesTk hz j) (by rw [List.length_take]; omega)
  rw [List.length_take, Nat.min_eq_left hj] at h; exact h
theorem slContainsFuncNT (A : Option Addr) (l : List Need) (j cap : Nat) (f : Nat) (caps : List Value) (p : Need → Bool) (w0 : World) (hz : RowsAt 2 needCells w0 A l) (hj : j ≤ l.length) (hl : l.length ≤ maxLen) (hfun : funT f = true)
    (hf : ∀ x ∈ l, ∀ w, Below w0.heap.size w0 w → Calls Try.prog f ([Value.agg (needCells x).toArray] ++ caps).toArray w fun e w' => e = .returned (.bool (p x)) ∧ Below w.heap.size w w') :
    Calls Try.prog 51 #[.slice A j cap, .func (.func f) #[] caps.toArray] w0 fun e w' => e = .returned (.bool ((l.take j).any p)) ∧ Below w0.heap.size w0 w' := by
  have h := slContainsFuncN A (l.take j) cap f caps p w0 (rowsTk hz j) (by rw [List.length_take]; omega) hfun (fun x hx => hf x (List.mem_of_mem_take hx))
  rw [List.length_take, Nat.min_eq_left hj] at h; exact h

def twiceB (l : List Int) : Bool := !decide l.Nodup
theorem nodup_take_succ {α : Type} {l : List α} {j : Nat} (hj : j < l.length) : (l.take (j + 1)).Nodup ↔ (l.take j).Nodup ∧ l[j] ∉ l.take j := by
  rw [List.take_succ_eq_append_getElem hj, List.nodup_append]
  constructor
  · rintro ⟨h1, _, h3⟩
    exact ⟨h1, fun hm => h3 _ hm _ (by simp) rfl⟩
  · rintro ⟨h1, h2⟩
    exact ⟨h1, by simp, fun a ha b hb he => by simp at hb; subst hb; subst he; exact h2 ha⟩
theorem nodup_of_take {α : Type} {l : List α} {j : Nat} (h : l.Nodup) : (l.take j).Nodup := h.sublist (List.take_sublist _ _)

theorem truckTwice (A : Option Addr) (l : List Int) (cap : Nat) (w0 : World) (hz : IntsAt w0 A l) (hl : l.length ≤ maxLen) (hcap : l.length ≤ cap) :
    Calls Try.prog 57 #[.slice A l.length cap] w0 fun e w' => e = .returned (.bool (twiceB l)) ∧ Below w0.heap.size w0 w' := by
  have H := SH.refl w0
  have hl' : l.length ≤ 9223372036854775807 := by unfold maxLen at hl; omega
  refine Calls.ofWP Try.func57 rfl Try.results57 Try.ntmps57 rfl ?_
  refine WP.seq ?_
  refine WP.region ?_
  refine OPS.val rfl rfl rfl (Ev.asB rfl) ?_
  refine OPS.nil ?_
  refine WP.seq ?_
  refine WP.seq ?_
  refine WP.region ?_
  refine OPS.val rfl rfl rfl (Ev.mvS rfl) ?_
  refine OPS.val rfl rfl rfl (Ev.len (el_run rfl) rfl) ?_
  refine OPS.val rfl rfl rfl (Ev.mvI rfl) ?_
  refine OPS.nil ?_
  refine WP.block ?_
  refine WP.loop [2, 3, 4, 7, 8, 9, 10, 11, 12, 13, 14, 15, 16, 17] (fun k e w' => ∃ j : Nat, j + k = l.length ∧ e 7 = I j ∧ SH w0 [] w' [] ∧ (l.take j).Nodup) (l.length) (⟨0, by omega, rfl, H, by simp⟩) ?_
  clear H
  rintro k u w ⟨j, hk, h7, H, hall⟩
  refine WP.know (t := 7) h7 ?_
  refine WP.seq ?_
  refine WP.region ?_
  refine OPS.val rfl rfl rfl (Ev.lss rfl rfl) ?_
  refine OPS.nil ?_
  refine WP.seq ?_
  refine WP.cond rfl (fun hc2 => ?_) (fun hc2 => ?_)
  · have hlt : j < l.length := by simpa using hc2
    obtain ⟨b, o, rfl, hx⟩ := hz j hlt
    have hnt := nodup_take_succ hlt
    refine WP.skip ?_
    refine WP.seq ?_
    refine WP.block ?_
    refine WP.seq ?_
    refine WP.region ?_
    refine OPS.val rfl rfl rfl (Ev.mvI rfl) ?_
    refine OPS.val rfl rfl rfl ((by exact Ev.indexAddr1 (el_run rfl) (size_run rfl) rfl rfl rfl (by omega))) ?_
    refine OPS.val rfl rfl rfl (Ev.load1 (agg_run rfl) rfl (by exact H.ld0 (by assumption))) ?_
    refine OPS.val rfl rfl rfl (Ev.asI rfl) ?_
    refine OPS.val rfl rfl rfl (Ev.asI rfl) ?_
    refine OPS.nil ?_
    refine WP.seq ?_
    refine WP.region ?_
    refine OPS.val rfl rfl rfl (Ev.mvS rfl) ?_
    refine OPS.val rfl rfl rfl (Ev.mvI rfl) ?_
    refine OPS.val rfl rfl rfl (Ev.sliceTo (j := j) (el_run rfl) ⟨1, size_run rfl⟩ rfl rfl rfl (by omega)) ?_
    refine OPS.val rfl rfl rfl (Ev.mvI rfl) ?_
    refine OPS.call (d := some 16) rfl rfl rfl (EvC.func (fun_run rfl)) (slContainsT _ l j cap l[j] w (hz.sh H) (by omega) hl) ?_
    rintro _ w ⟨rfl, hb⟩
    refine ⟨_, rfl, ?_⟩
    replace H := H.toBelow hb; clear hb
    refine OPS.nil ?_
    refine WP.cond rfl (fun hc4 => ?_) (fun hc4 => ?_)
    · refine WP.seq ?_
      refine WP.region ?_
      refine OPS.val rfl rfl rfl (Ev.asB rfl) ?_
      refine OPS.nil ?_
      refine WP.ret ⟨_, rfl, ?_⟩
      have he : l[j] ∈ l.take j := by simpa using hc4
      have : twiceB l = true := by
        unfold twiceB
        rw [Bool.not_eq_true', decide_eq_false_iff_not]
        exact fun h => (hnt.1 (nodup_of_take h)).2 he
      exact ⟨by rw [this]; rfl, H.below⟩
    refine WP.skip ?_
    refine WP.region ?_
    refine OPS.val rfl rfl rfl (Ev.add rfl rfl (by unfold fits; omega)) ?_
    refine OPS.val rfl rfl rfl (Ev.mvI rfl) ?_
    refine OPS.nil ?_
    have he : l[j] ∉ l.take j := by simpa using hc4
    exact ⟨(by repeat (first | exact Agree.refl _ _ | exact Agree.mix _ _ _ | refine Agree.upd rfl ?_ | refine Agree.mix2 rfl ?_)), k - 1, by omega, j + 1, by omega, rfl, H, hnt.2 ⟨hall, he⟩⟩
  refine WP.exit ?_
  refine XB.hit ?_
  refine WP.seq ?_
  refine WP.region ?_
  refine OPS.val rfl rfl rfl (Ev.asB rfl) ?_
  refine OPS.nil ?_
  refine WP.ret ⟨_, rfl, ?_⟩
  have hj : j = l.length := by simp at hc2; omega
  rw [hj, List.take_length] at hall
  exact ⟨by simp only [twiceB, hall, decide_true]; rfl, H.below⟩

end Go.Proofs.Ytfddebpeiilohaa
