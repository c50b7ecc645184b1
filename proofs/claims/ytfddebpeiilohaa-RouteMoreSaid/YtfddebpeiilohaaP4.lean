/-
  Plain: what the laws ask of the best and of the most.
-/
import Derived.Test.YtfddebpeiilohaaP3
set_option linter.all false
namespace Go.Proofs.Ytfddebpeiilohaa
open Go Go.W Go.RowKit

theorem mvL_perm {ns : List Need} {a b : List Int} (h : a.Perm b) : mvL ns a = mvL ns b := by
  unfold mvL
  induction h with
  | nil => rfl
  | cons x _ ih => simp only [List.map_cons, List.sum_cons, ih]
  | swap x y l => simp only [List.map_cons, List.sum_cons]; omega
  | trans _ _ ih1 ih2 => exact ih1.trans ih2
theorem mvL_sublist {ns : List Need} {a b : List Int} (h : a.Sublist b) (hp : ∀ i ∈ b, 0 < absI (needAt ns i).move) : mvL ns a ≤ mvL ns b ∧ (a.length < b.length → mvL ns a < mvL ns b) := by
  induction h with
  | slnil => exact ⟨Int.le_refl _, fun h => by simp at h⟩
  | cons x h ih =>
    have h1 := (ih fun i hi => hp i (List.mem_cons_of_mem _ hi)).1
    have h2 := hp x List.mem_cons_self
    have h3 : ∀ l, mvL ns (x :: l) = absI (needAt ns x).move + mvL ns l := fun l => by unfold mvL; simp
    rw [h3]
    exact ⟨by omega, fun _ => by omega⟩
  | cons_cons x h ih =>
    obtain ⟨h1, h1'⟩ := ih fun i hi => hp i (List.mem_cons_of_mem _ hi)
    have h3 : ∀ l, mvL ns (x :: l) = absI (needAt ns x).move + mvL ns l := fun l => by unfold mvL; simp
    rw [h3, h3]
    exact ⟨by omega, fun hl => by have := h1' (by simpa using hl); omega⟩
theorem sub_full {l o : List Int} (hl : l.Nodup) (ho : o.Nodup) (hs : ∀ x ∈ o, x ∈ l) (he : o.length = l.length) : o.Perm l := by
  obtain ⟨s, _, h⟩ := part_of hl ho hs
  have h1 := pickS_sub l s
  have h2 := h1.eq_of_length (by rw [← h.length_eq]; exact he)
  rw [h2] at h; exact h
theorem mvL_part {ns : List Need} {l o : List Int} (hl : l.Nodup) (ho : o.Nodup) (hs : ∀ x ∈ o, x ∈ l) (hp : ∀ i ∈ l, 0 < absI (needAt ns i).move) : mvL ns o ≤ mvL ns l ∧ (o.length < l.length → mvL ns o < mvL ns l) := by
  obtain ⟨s, _, h⟩ := part_of hl ho hs
  have h1 := mvL_sublist (pickS_sub l s) hp
  rw [mvL_perm h, h.length_eq]; exact h1
theorem roadErr_ne (n : Int) (l : List Edg) : roadErr n l ≠ 10 := by
  have h : ∀ l : List Edg, edgsErr n l ≠ 10 := fun l => by
    induction l with
    | nil => simp [edgsErr]
    | cons a l ih => unfold edgsErr; split <;> (try split) <;> first | decide | exact ih
  unfold roadErr
  repeat' split
  all_goals first | decide | exact h _
theorem nightErr_ne (n : Int) (l : List Edg) (ts : List Truck) (ns : List Need) (hd : Int) : nightErr n l ts ns hd ≠ 10 := by
  have h1 : ∀ l : List Truck, trucksErr n l ≠ 10 := fun l => by
    induction l with
    | nil => simp [trucksErr]
    | cons a l ih => unfold trucksErr; split <;> (try split) <;> first | decide | exact ih
  have h2 : ∀ l : List Need, needsErr n l ≠ 10 := fun l => by
    induction l with
    | nil => simp [needsErr]
    | cons a l ih => unfold needsErr; split <;> (try split) <;> first | decide | exact ih
  unfold nightErr
  repeat' split
  all_goals first | decide | exact h1 _ | exact h2 _ | exact roadErr_ne _ _
section
variable {n : Int} {l : List Edg} {ts : List Truck} {ns : List Need} {hd rt : Int} {rn : List Int}
theorem askErr_ne : askErr n l ts ns hd rt rn ≠ 10 := by
  unfold askErr routeErr
  repeat' split
  all_goals first | decide | exact nightErr_ne _ _ _ _ _ | (rename_i h _; split at h <;> (try split at h) <;> simp_all)
theorem askErr_perm {rn' : List Int} (h : rn.Perm rn') : askErr n l ts ns hd rt rn = askErr n l ts ns hd rt rn' := by
  have h1 : rn.any (outB ns.length) = rn'.any (outB ns.length) := by
    rw [Bool.eq_iff_iff, List.any_eq_true, List.any_eq_true]
    exact ⟨fun ⟨x, hx, hy⟩ => ⟨x, h.mem_iff.1 hx, hy⟩, fun ⟨x, hx, hy⟩ => ⟨x, h.mem_iff.2 hx, hy⟩⟩
  have h2 : twiceB rn = twiceB rn' := by unfold twiceB; rw [decide_eq_decide.2 h.nodup_iff]
  unfold askErr routeErr
  rw [h1, h2, h.length_eq]
/-- what a good question gives -/
structure AskOk (m : Nat) (l : List Edg) (ts : List Truck) (ns : List Need) (hd rt : Int) (rn : List Int) : Prop where
  night : nightErr m l ts ns hd = 0
  ok : NightOk m l ts ns hd
  tr : 0 ≤ rt ∧ rt < ts.length
  inr : ∀ i ∈ rn, 0 ≤ i ∧ i < ns.length
  nd : rn.Nodup
  len : rn.length ≤ 6
  pos : ∀ i ∈ rn, 0 < absI (needAt ns i).move
theorem askOk_of (h : askErr n l ts ns hd rt rn = 0) : ∃ m : Nat, n = m ∧ AskOk m l ts ns hd rt rn := by
  obtain ⟨h1, h2, h3⟩ := ask_ok h
  obtain ⟨m, rfl, hN⟩ := nightOk_of h1
  obtain ⟨h4, h5, h6, _⟩ := routeOk_of h2
  refine ⟨m, rfl, h1, hN, h4, h5, h6, h3, fun i hi => ?_⟩
  obtain ⟨h7, h8⟩ := h5 i hi
  obtain ⟨q, rfl⟩ := Int.eq_ofNat_of_zero_le h7
  have hq : q < ns.length := by omega
  rw [needAt_eq hq]
  have := (hN.nd ns[q] (List.getElem_mem hq)).2.1
  unfold absI; split <;> omega
theorem AskOk.nil {m : Nat} (h : AskOk m l ts ns hd rt rn) : walkE m l ts ns hd rt [] = 0 := by
  obtain ⟨q, rfl⟩ := Int.eq_ofNat_of_zero_le h.tr.1
  have hq : q < ts.length := by have := h.tr.2; omega
  have htr := h.ok.tr ts[q] (List.getElem_mem hq)
  have hgt : ts.getD (q : Int).toNat default = ts[q] := by simp [hq]
  have hr : routeErr ts ns q [] = 0 := by
    unfold routeErr
    rw [if_neg (by simp [outB, inB]; omega), if_neg (by simp [twiceB])]
  obtain ⟨d, hd'⟩ := Int.eq_ofNat_of_zero_le htr.1.1
  have hdm : d < m := by omega
  have h0 : roadT m l d d = 0 := by
    obtain ⟨K, D, hR⟩ := rd_exists h.ok.road hdm
    rw [roadT_eq h.ok.road hR hdm, if_pos hR.src.1, hR.src.2]
  rw [walkE, if_neg (by rw [h.night]; decide), if_neg (by rw [hr]; decide), hgt]
  unfold endT
  rw [hgt]
  simp only [goE, goT, ne_eq, not_true_eq_false, if_false, startT, homeE, roadD, hd', Int.toNat_natCast, h0]
  rw [if_neg (by omega), if_neg (by omega)]
end
end Go.Proofs.Ytfddebpeiilohaa
