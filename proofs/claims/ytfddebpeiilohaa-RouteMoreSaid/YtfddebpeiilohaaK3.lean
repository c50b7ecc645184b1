/-
  Walks: comparisons, a copy of a list, how much is moved.
-/
import Derived.Test.YtfddebpeiilohaaK2
import Derived.Test.YtfddebpeiilohaaG1
import Derived.Test.YtfddebpeiilohaaPlus
set_option linter.all false
namespace Go.Proofs.Ytfddebpeiilohaa
open Go Go.W Go.RowKit

def cmpI (a b : Int) : Int := if a < b then -1 else if b < a then 1 else 0
theorem cmpCompare (a b : Int) (w0 : World) : Calls Try.prog 47 #[I a, I b] w0 fun e w' => e = .returned (I (cmpI a b)) ∧ Below w0.heap.size w0 w' := by
  have H := SH.refl w0
  refine Calls.ofWP Try.func47 rfl Try.results47 Try.ntmps47 rfl ?_
  refine WP.seq ?_
  refine WP.region ?_
  refine OPS.val rfl rfl rfl (Ev.asI rfl) ?_
  refine OPS.nil ?_
  refine WP.seq ?_
  refine WP.region ?_
  refine OPS.val rfl rfl rfl (Ev.mvI rfl) ?_
  refine OPS.call (d := some 8) rfl rfl rfl (EvC.func (fun_run rfl)) (cmpNaN a _) ?_
  rintro _ w ⟨rfl, hb⟩
  refine ⟨_, rfl, ?_⟩
  replace H := H.toBelow hb; clear hb
  refine OPS.val rfl rfl rfl (Ev.asB rfl) ?_
  refine OPS.nil ?_
  refine WP.seq ?_
  refine WP.region ?_
  refine OPS.val rfl rfl rfl (Ev.mvI rfl) ?_
  refine OPS.call (d := some 10) rfl rfl rfl (EvC.func (fun_run rfl)) (cmpNaN b _) ?_
  rintro _ w ⟨rfl, hb⟩
  refine ⟨_, rfl, ?_⟩
  replace H := H.toBelow hb; clear hb
  refine OPS.val rfl rfl rfl (Ev.asB rfl) ?_
  refine OPS.nil ?_
  refine WP.seq ?_
  refine WP.seq ?_
  refine WP.region ?_
  refine OPS.val rfl rfl rfl (Ev.mvB rfl) ?_
  refine OPS.nil ?_
  refine WP.cond rfl (fun hc3 => ?_) (fun hc3 => ?_)
  · refine WP.seq ?_
    refine WP.seq ?_
    refine WP.region ?_
    refine OPS.val rfl rfl rfl (Ev.mvB rfl) ?_
    refine OPS.nil ?_
    refine WP.cond rfl (fun hc4 => ?_) (fun hc4 => ?_)
    · refine WP.seq ?_
      refine WP.region ?_
      refine OPS.val rfl rfl rfl (Ev.asI rfl) ?_
      refine OPS.nil ?_
      refine WP.ret ⟨_, rfl, ?_⟩
      cases hc3
    refine WP.skip ?_
    refine WP.seq ?_
    refine WP.region ?_
    refine OPS.val rfl rfl rfl (Ev.asI rfl) ?_
    refine OPS.nil ?_
    refine WP.ret ⟨_, rfl, ?_⟩
    cases hc3
  refine WP.skip ?_
  refine WP.seq ?_
  refine WP.seq ?_
  refine WP.region ?_
  refine OPS.val rfl rfl rfl (Ev.mvB rfl) ?_
  refine OPS.nil ?_
  refine WP.cond rfl (fun hc7 => ?_) (fun hc7 => ?_)
  · refine WP.seq ?_
    refine WP.region ?_
    refine OPS.val rfl rfl rfl (Ev.asI rfl) ?_
    refine OPS.nil ?_
    refine WP.ret ⟨_, rfl, ?_⟩
    cases hc7
  refine WP.skip ?_
  refine WP.seq ?_
  refine WP.seq ?_
  refine WP.region ?_
  refine OPS.val rfl rfl rfl (Ev.mvI rfl) ?_
  refine OPS.val rfl rfl rfl (Ev.mvI rfl) ?_
  refine OPS.val rfl rfl rfl (Ev.lss rfl rfl) ?_
  refine OPS.nil ?_
  refine WP.cond rfl (fun hc9 => ?_) (fun hc9 => ?_)
  · refine WP.seq ?_
    refine WP.region ?_
    refine OPS.val rfl rfl rfl (Ev.asI rfl) ?_
    refine OPS.nil ?_
    refine WP.ret ⟨_, rfl, ?_⟩
    have h : a < b := by simpa using hc9
    exact ⟨by rw [cmpI, if_pos h]; rfl, H.below⟩
  refine WP.skip ?_
  refine WP.seq ?_
  refine WP.seq ?_
  refine WP.region ?_
  refine OPS.val rfl rfl rfl (Ev.mvI rfl) ?_
  refine OPS.val rfl rfl rfl (Ev.mvI rfl) ?_
  refine OPS.val rfl rfl rfl (Ev.gtr rfl rfl) ?_
  refine OPS.nil ?_
  refine WP.cond rfl (fun hc11 => ?_) (fun hc11 => ?_)
  · refine WP.seq ?_
    refine WP.region ?_
    refine OPS.val rfl rfl rfl (Ev.asI rfl) ?_
    refine OPS.nil ?_
    refine WP.ret ⟨_, rfl, ?_⟩
    have h : ¬ a < b := by simpa using hc9
    have h2 : b < a := by simpa using hc11
    exact ⟨by rw [cmpI, if_neg h, if_pos h2]; rfl, H.below⟩
  refine WP.skip ?_
  refine WP.seq ?_
  refine WP.region ?_
  refine OPS.val rfl rfl rfl (Ev.asI rfl) ?_
  refine OPS.nil ?_
  refine WP.ret ⟨_, rfl, ?_⟩
  have h : ¬ a < b := by simpa using hc9
  have h2 : ¬ b < a := by simpa using hc11
  exact ⟨by rw [cmpI, if_neg h, if_neg h2]; rfl, H.below⟩
def orI : List Int → Int
  | [] => 0
  | x :: l => if x ≠ 0 then x else orI l
theorem orI_drop {l : List Int} : ∀ {j : Nat}, j ≤ l.length → (∀ i (h : i < l.length), i < j → l[i] = 0) → orI l = orI (l.drop j)
  | 0, _, _ => by simp
  | j + 1, hj, h => by
    rw [orI_drop (j := j) (by omega) (fun i h1 h2 => h i h1 (by omega)), List.drop_eq_getElem_cons (show j < l.length by omega), orI, if_neg (by simpa using h j (by omega) (by omega))]
theorem cmpOr (A : Option Addr) (l : List Int) (cap : Nat) (w0 : World) (hz : IntsAt w0 A l) (hl : l.length ≤ 1000) :
    Calls Try.prog 46 #[.slice A l.length cap] w0 fun e w' => e = .returned (I (orI l)) ∧ Below w0.heap.size w0 w' := by
  have H := SH.refl w0
  refine Calls.ofWP Try.func46 rfl Try.results46 Try.ntmps46 rfl ?_
  refine WP.seq ?_
  refine WP.region ?_
  refine OPS.val rfl rfl rfl (Ev.asI rfl) ?_
  refine OPS.nil ?_
  refine WP.seq ?_
  refine WP.region ?_
  refine OPS.val rfl rfl rfl (Ev.asI rfl) ?_
  refine OPS.nil ?_
  refine WP.seq ?_
  refine WP.seq ?_
  refine WP.region ?_
  refine OPS.val rfl rfl rfl (Ev.mvS rfl) ?_
  refine OPS.val rfl rfl rfl (Ev.len (el_run rfl) rfl) ?_
  refine OPS.val rfl rfl rfl (Ev.mvI rfl) ?_
  refine OPS.nil ?_
  refine WP.block ?_
  refine WP.loop [2, 5, 8, 9, 10, 11, 12, 13, 14, 15, 16] (fun k e w' => ∃ (j : Nat), j + k = l.length ∧ e 8 = I j ∧ (∀ i (h : i < l.length), i < j → l[i] = 0) ∧ SH w0 [] w' []) (l.length) (⟨0, by omega, rfl, fun _ _ _ => by omega, H⟩) ?_
  clear H
  rintro k u w ⟨j, hk, h8, hall, H⟩
  refine WP.know (t := 8) h8 ?_
  refine WP.seq ?_
  refine WP.region ?_
  refine OPS.val rfl rfl rfl (Ev.lss rfl rfl) ?_
  refine OPS.nil ?_
  refine WP.seq ?_
  refine WP.cond rfl (fun hc3 => ?_) (fun hc3 => ?_)
  · have hlt : j < l.length := by simpa using hc3
    obtain ⟨b, o, rfl, hx⟩ := hz j hlt
    refine WP.skip ?_
    refine WP.seq ?_
    refine WP.block ?_
    refine WP.seq ?_
    refine WP.region ?_
    refine OPS.val rfl rfl rfl ((by exact Ev.indexAddr1 (el_run rfl) (size_run rfl) rfl rfl rfl (by omega))) ?_
    refine OPS.val rfl rfl rfl (Ev.load1 (agg_run rfl) rfl (by exact H.ld0 (by assumption))) ?_
    refine OPS.val rfl rfl rfl (Ev.asI rfl) ?_
    refine OPS.nil ?_
    refine WP.seq ?_
    refine WP.region ?_
    refine OPS.val rfl rfl rfl (Ev.mvI rfl) ?_
    refine OPS.val rfl rfl rfl (Ev.mvI rfl) ?_
    refine OPS.val rfl rfl rfl (Ev.neq rfl rfl) ?_
    refine OPS.nil ?_
    refine WP.cond rfl (fun hc5 => ?_) (fun hc5 => ?_)
    · refine WP.seq ?_
      refine WP.region ?_
      refine OPS.val rfl rfl rfl (Ev.mvI rfl) ?_
      refine OPS.val rfl rfl rfl (Ev.asI rfl) ?_
      refine OPS.nil ?_
      refine WP.ret ⟨_, rfl, ?_⟩
      have hne : l[j] ≠ 0 := by simpa using hc5
      exact ⟨by rw [orI_drop (j := j) (by omega) hall, List.drop_eq_getElem_cons hlt, orI, if_pos hne]; rfl, H.below⟩
    have hne : l[j] = 0 := by simpa using hc5
    refine WP.skip ?_
    refine WP.region ?_
    refine OPS.val rfl rfl rfl (Ev.add rfl rfl (by unfold fits; omega)) ?_
    refine OPS.val rfl rfl rfl (Ev.mvI rfl) ?_
    refine OPS.nil ?_
    exact ⟨(by repeat (first | exact Agree.refl _ _ | exact Agree.mix _ _ _ | refine Agree.upd rfl ?_ | refine Agree.mix2 rfl ?_)), k - 1, by omega, j + 1, by omega, rfl, (fun i h1 h2 => by
      rcases Nat.lt_or_eq_of_le (Nat.le_of_lt_succ h2) with h | rfl
      · exact hall i h1 h
      · exact hne), H⟩
  refine WP.exit ?_
  refine XB.hit ?_
  refine WP.seq ?_
  refine WP.region ?_
  refine OPS.val rfl rfl rfl (Ev.mvI rfl) ?_
  refine OPS.val rfl rfl rfl (Ev.asI rfl) ?_
  refine OPS.nil ?_
  refine WP.ret ⟨_, rfl, ?_⟩
  have hj : j = l.length := by simp at hc3; omega
  exact ⟨by rw [orI_drop (j := j) (by omega) hall, hj, List.drop_length]; rfl, H.below⟩
def cmpLs : List Int → List Int → Int
  | [], [] => 0
  | [], _ :: _ => -1
  | _ :: _, [] => 1
  | x :: a, y :: b => if cmpI x y ≠ 0 then cmpI x y else cmpLs a b
theorem cmpLs_neg : ∀ (a b : List Int), cmpLs a b < 0 ↔ lexB a b = true
  | [], [] => by simp [cmpLs, lexB]
  | [], _ :: _ => by simp [cmpLs, lexB]
  | _ :: _, [] => by simp [cmpLs, lexB]
  | x :: a, y :: b => by
    have ih := cmpLs_neg a b
    rw [cmpLs, lexB, cmpI]
    by_cases h1 : x < y
    · simp [h1]
    · by_cases h2 : y < x
      · simp [h1, h2]
      · simp [h1, h2, ih]
theorem cmpLs_drop {a b : List Int} : ∀ {j : Nat}, j ≤ a.length → j ≤ b.length → (∀ i (h : i < a.length) (h2 : i < b.length), i < j → a[i] = b[i]) → cmpLs a b = cmpLs (a.drop j) (b.drop j)
  | 0, _, _, _ => by simp
  | j + 1, h1, h2, h => by
    rw [cmpLs_drop (j := j) (by omega) (by omega) (fun i q1 q2 q3 => h i q1 q2 (by omega)), List.drop_eq_getElem_cons (show j < a.length by omega), List.drop_eq_getElem_cons (show j < b.length by omega), cmpLs, h j (by omega) (by omega) (by omega), if_neg (by simp [cmpI])]
theorem slCompare (A B : Option Addr) (a b : List Int) (c1 c2 : Nat) (w0 : World) (ha : IntsAt w0 A a) (hb : IntsAt w0 B b) (hl : a.length ≤ 1000) (hl2 : b.length ≤ 1000) :
    Calls Try.prog 48 #[.slice A a.length c1, .slice B b.length c2] w0 fun e w' => e = .returned (I (cmpLs a b)) ∧ Below w0.heap.size w0 w' := by
  have H := SH.refl w0
  refine Calls.ofWP Try.func48 rfl Try.results48 Try.ntmps48 rfl ?_
  refine WP.seq ?_
  refine WP.region ?_
  refine OPS.val rfl rfl rfl (Ev.asI rfl) ?_
  refine OPS.nil ?_
  refine WP.seq ?_
  refine WP.seq ?_
  refine WP.region ?_
  refine OPS.val rfl rfl rfl (Ev.mvS rfl) ?_
  refine OPS.val rfl rfl rfl (Ev.len (el_run rfl) rfl) ?_
  refine OPS.val rfl rfl rfl (Ev.mvI rfl) ?_
  refine OPS.nil ?_
  refine WP.block ?_
  refine WP.loop [4, 5, 6, 7, 8, 11, 12, 13, 14, 15, 16, 17, 18, 19, 20, 21, 22, 23, 24, 25, 26, 27, 28, 29, 30] (fun k e w' => ∃ (j : Nat), j + k = a.length ∧ e 11 = I j ∧ j ≤ b.length ∧ (∀ i (h : i < a.length) (h2 : i < b.length), i < j → a[i] = b[i]) ∧ SH w0 [] w' []) (a.length) (⟨0, by omega, rfl, by omega, fun _ _ _ _ => by omega, H⟩) ?_
  clear H
  rintro k u w ⟨j, hk, h11, hjb, hall, H⟩
  refine WP.know (t := 11) h11 ?_
  refine WP.seq ?_
  refine WP.region ?_
  refine OPS.val rfl rfl rfl (Ev.lss rfl rfl) ?_
  refine OPS.nil ?_
  refine WP.seq ?_
  refine WP.cond rfl (fun hc2 => ?_) (fun hc2 => ?_)
  · have hlt : j < a.length := by simpa using hc2
    obtain ⟨b1, o1, rfl, hx⟩ := ha j hlt
    refine WP.skip ?_
    refine WP.seq ?_
    refine WP.block ?_
    refine WP.seq ?_
    refine WP.region ?_
    refine OPS.val rfl rfl rfl (Ev.mvI rfl) ?_
    refine OPS.val rfl rfl rfl ((by exact Ev.indexAddr1 (el_run rfl) (size_run rfl) rfl rfl rfl (by omega))) ?_
    refine OPS.val rfl rfl rfl (Ev.load1 (agg_run rfl) rfl (by exact H.ld0 (by assumption))) ?_
    refine OPS.val rfl rfl rfl (Ev.asI rfl) ?_
    refine OPS.val rfl rfl rfl (Ev.asI rfl) ?_
    refine OPS.nil ?_
    refine WP.seq ?_
    refine WP.seq ?_
    refine WP.region ?_
    refine OPS.val rfl rfl rfl (Ev.mvI rfl) ?_
    refine OPS.val rfl rfl rfl (Ev.mvS rfl) ?_
    refine OPS.val rfl rfl rfl (Ev.len (el_run rfl) rfl) ?_
    refine OPS.val rfl rfl rfl (Ev.geq rfl rfl) ?_
    refine OPS.nil ?_
    refine WP.cond rfl (fun hc4 => ?_) (fun hc4 => ?_)
    · refine WP.seq ?_
      refine WP.region ?_
      refine OPS.val rfl rfl rfl (Ev.asI rfl) ?_
      refine OPS.nil ?_
      refine WP.ret ⟨_, rfl, ?_⟩
      have h : ¬ j < b.length := by simpa using hc4
      exact ⟨by rw [cmpLs_drop (j := j) (by omega) (by omega) hall, List.drop_eq_getElem_cons hlt, List.drop_eq_nil_of_le (show b.length ≤ j by omega)]; rfl, H.below⟩
    have hlt2 : j < b.length := by simpa using hc4
    obtain ⟨b2, o2, rfl, hy⟩ := hb j hlt2
    refine WP.skip ?_
    refine WP.seq ?_
    refine WP.region ?_
    refine OPS.val rfl rfl rfl (Ev.mvS rfl) ?_
    refine OPS.val rfl rfl rfl (Ev.mvI rfl) ?_
    refine OPS.val rfl rfl rfl ((by exact Ev.indexAddr1 (el_run rfl) (size_run rfl) rfl rfl rfl (by omega))) ?_
    refine OPS.val rfl rfl rfl (Ev.load1 (agg_run rfl) rfl (by exact H.ld0 (by assumption))) ?_
    refine OPS.val rfl rfl rfl (Ev.asI rfl) ?_
    refine OPS.nil ?_
    refine WP.seq ?_
    refine WP.region ?_
    refine OPS.val rfl rfl rfl (Ev.mvI rfl) ?_
    refine OPS.val rfl rfl rfl (Ev.mvI rfl) ?_
    refine OPS.call (d := some 26) rfl rfl rfl (EvC.func (fun_run rfl)) (cmpCompare a[j] b[j] _) ?_
    rintro _ w ⟨rfl, hb⟩
    refine ⟨_, rfl, ?_⟩
    replace H := H.toBelow hb; clear hb
    refine OPS.val rfl rfl rfl (Ev.asI rfl) ?_
    refine OPS.nil ?_
    refine WP.seq ?_
    refine WP.region ?_
    refine OPS.val rfl rfl rfl (Ev.mvI rfl) ?_
    refine OPS.val rfl rfl rfl (Ev.neq rfl rfl) ?_
    refine OPS.nil ?_
    refine WP.cond rfl (fun hc8 => ?_) (fun hc8 => ?_)
    · refine WP.seq ?_
      refine WP.region ?_
      refine OPS.val rfl rfl rfl (Ev.mvI rfl) ?_
      refine OPS.val rfl rfl rfl (Ev.asI rfl) ?_
      refine OPS.nil ?_
      refine WP.ret ⟨_, rfl, ?_⟩
      have hne : cmpI a[j] b[j] ≠ 0 := by simpa using hc8
      exact ⟨by rw [cmpLs_drop (j := j) (by omega) (by omega) hall, List.drop_eq_getElem_cons hlt, List.drop_eq_getElem_cons hlt2, cmpLs, if_pos hne]; rfl, H.below⟩
    have hne : cmpI a[j] b[j] = 0 := by simpa using hc8
    have heq : a[j] = b[j] := by
      unfold cmpI at hne
      split at hne
      · cases hne
      · split at hne
        · cases hne
        · omega
    refine WP.skip ?_
    refine WP.region ?_
    refine OPS.val rfl rfl rfl (Ev.add rfl rfl (by unfold fits; omega)) ?_
    refine OPS.val rfl rfl rfl (Ev.mvI rfl) ?_
    refine OPS.nil ?_
    exact ⟨(by repeat (first | exact Agree.refl _ _ | exact Agree.mix _ _ _ | refine Agree.upd rfl ?_ | refine Agree.mix2 rfl ?_)), k - 1, by omega, j + 1, by omega, rfl, by omega, (fun i h1 h2 h3 => by
      rcases Nat.lt_or_eq_of_le (Nat.le_of_lt_succ h3) with h | rfl
      · exact hall i h1 h2 h
      · exact heq), H⟩
  have hj : j = a.length := by simp at hc2; omega
  refine WP.exit ?_
  refine XB.hit ?_
  refine WP.seq ?_
  refine WP.seq ?_
  refine WP.region ?_
  refine OPS.val rfl rfl rfl (Ev.mvS rfl) ?_
  refine OPS.val rfl rfl rfl (Ev.len (el_run rfl) rfl) ?_
  refine OPS.val rfl rfl rfl (Ev.mvS rfl) ?_
  refine OPS.val rfl rfl rfl (Ev.len (el_run rfl) rfl) ?_
  refine OPS.val rfl rfl rfl (Ev.lss rfl rfl) ?_
  refine OPS.nil ?_
  refine WP.cond rfl (fun hc11 => ?_) (fun hc11 => ?_)
  · refine WP.seq ?_
    refine WP.region ?_
    refine OPS.val rfl rfl rfl (Ev.asI rfl) ?_
    refine OPS.nil ?_
    refine WP.ret ⟨_, rfl, ?_⟩
    have h : a.length < b.length := by simpa using hc11
    exact ⟨by rw [cmpLs_drop (j := j) (by omega) (by omega) hall, hj, List.drop_length, List.drop_eq_getElem_cons h]; rfl, H.below⟩
  refine WP.skip ?_
  refine WP.seq ?_
  refine WP.region ?_
  refine OPS.val rfl rfl rfl (Ev.asI rfl) ?_
  refine OPS.nil ?_
  refine WP.ret ⟨_, rfl, ?_⟩
  have h : ¬ a.length < b.length := by simpa using hc11
  exact ⟨by rw [cmpLs_drop (j := j) (by omega) (by omega) hall, hj, List.drop_length, List.drop_eq_nil_of_le (show b.length ≤ a.length by omega)]; rfl, H.below⟩
end Go.Proofs.Ytfddebpeiilohaa

/-
  Walks: a copy of a list, how much is moved, the better one.
-/
set_option linter.all false
namespace Go.Proofs.Ytfddebpeiilohaa
open Go Go.W Go.RowKit

theorem onesCellsAt {w : World} {b : Nat} : ∀ (l : List Int) (o : Nat), IntsAt w (some ⟨b, o, none⟩) l → cellsAt w b o (l.map I)
  | [], _, _ => trivial
  | x :: l, o, h => by
    obtain ⟨b0, o0, e, h1⟩ := h 0 (by simp)
    cases e
    refine ⟨by simpa using h1, onesCellsAt l (o + 1) fun k hk => ?_⟩
    obtain ⟨b1, o1, e1, h2⟩ := h (k + 1) (by simpa using hk)
    cases e1
    exact ⟨_, _, rfl, by rw [show o + 1 + k = o + (k + 1) by omega]; simpa using h2⟩
theorem intsFrom {w : World} {A : Option Addr} {l : List Int} (h : IntsAt w A l) : l.length = 0 ∨ ∃ b o, A = some ⟨b, o, none⟩ ∧ cellsAt w b o (l.map I) := by
  rcases Nat.eq_zero_or_pos l.length with h0 | h0
  · exact .inl h0
  · obtain ⟨b, o, rfl, _⟩ := h 0 h0
    exact .inr ⟨b, o, rfl, onesCellsAt l o h⟩
theorem intsOne (l : List Int) : ((l.map I).all (·.oneCell')) = true := by rw [List.all_eq_true]; intro v hv; obtain ⟨x, _, rfl⟩ := List.mem_map.1 hv; rfl
theorem slClone (A : Option Addr) (l : List Int) (cap : Nat) (w0 : World) (hz : IntsAt w0 A l) (hl : l.length ≤ 1000) (hA : A = none → cap = 0) :
    Calls Try.prog 42 #[.slice A l.length cap] w0 fun e w' => ∃ (A' : Option Addr) (c : Nat) (Lo : List Blk), e = .returned (.slice A' l.length c) ∧ OwnS A' c l.length (l.map I) 3 1 Lo ∧ SH w0 [] w' Lo := by
  have H := SH.refl w0
  have hn : A = none → l = [] := fun h => by
    cases l with
    | nil => rfl
    | cons x l => obtain ⟨b, o, e, _⟩ := hz 0 (by simp); rw [h] at e; cases e
  refine Calls.ofWP Try.func42 rfl Try.results42 Try.ntmps42 rfl ?_
  refine WP.seq ?_
  refine WP.region ?_
  refine OPS.val rfl rfl rfl (Ev.asS rfl) ?_
  refine OPS.nil ?_
  refine WP.seq ?_
  refine WP.seq ?_
  refine WP.region ?_
  refine OPS.val rfl rfl rfl (Ev.mvS rfl) ?_
  refine OPS.val rfl rfl rfl (Ev.eqlSn Try.runUnderlying29 rfl rfl) ?_
  refine OPS.nil ?_
  refine WP.cond rfl (fun hc1 => ?_) (fun hc1 => ?_)
  · refine WP.seq ?_
    refine WP.region ?_
    refine OPS.val rfl rfl rfl (Ev.asS rfl) ?_
    refine OPS.nil ?_
    refine WP.ret ⟨_, rfl, ?_⟩
    have h : A = none := by simpa using hc1
    obtain rfl := hn h
    obtain rfl := hA h
    exact ⟨none, 0, [], rfl, OwnS.nil, H⟩
  refine WP.skip ?_
  refine WP.seq ?_
  refine WP.region ?_
  refine OPS.buildSlice rfl rfl rfl rfl (bsl_29_0_ (e := fun _ => .int .i64 0)) H ?_
  clear H; intro g5 w H
  refine OPS.val rfl rfl rfl (Ev.mvS rfl) ?_
  refine OPS.appendE (m := l.length) (news := l.map I) (R := []) rfl rfl rfl rfl rfl (sl_run rfl) rfl rfl OwnS.mt (by simp) (intsFrom (hz.sh H)) (intsOne l) (by omega) (by unfold maxLen; omega) H (List.Perm.refl _) ?_
  clear H; intro A' c Lo w hO H
  refine OPS.val rfl rfl rfl (Ev.asS rfl) ?_
  refine OPS.nil ?_
  refine WP.ret ⟨_, rfl, ?_⟩
  rw [Nat.zero_add] at hO
  exact ⟨A', c, Lo, by rw [Nat.zero_add]; rfl, by simpa using hO, by simpa using H⟩
def mvL (ns : List Need) (rn : List Int) : Int := (rn.map fun i => absI (needAt ns i).move).sum
theorem mvL_snoc (ns : List Need) (rn : List Int) (i : Int) : mvL ns (rn ++ [i]) = mvL ns rn + absI (needAt ns i).move := by unfold mvL; rw [List.map_append, List.sum_append]; simp
theorem mvL_bd {ns : List Need} (hm : ∀ x ∈ ns, -32 ≤ x.move ∧ x.move ≤ 32) : ∀ (rn : List Int), 0 ≤ mvL ns rn ∧ mvL ns rn ≤ 32 * rn.length
  | [] => by simp [mvL]
  | i :: rn => by
    have ih := mvL_bd hm rn
    have h1 : -32 ≤ (needAt ns i).move ∧ (needAt ns i).move ≤ 32 := by
      unfold needAt
      by_cases h : i.toNat < ns.length
      · have := hm ns[i.toNat] (List.getElem_mem h)
        rw [List.getD_eq_getElem?_getD, List.getElem?_eq_getElem h]; exact this
      · rw [List.getD_eq_getElem?_getD, List.getElem?_eq_none (by omega)]; exact ⟨by decide, by decide⟩
    have h2 : mvL ns (i :: rn) = absI (needAt ns i).move + mvL ns rn := by unfold mvL; simp
    rw [h2]
    have h3 : 0 ≤ absI (needAt ns i).move ∧ absI (needAt ns i).move ≤ 32 := by unfold absI; omega
    simp only [List.length_cons]
    omega
theorem needAt_eq {ns : List Need} {i : Nat} (h : i < ns.length) : needAt ns (i : Int) = ns[i] := by unfold needAt; simp [h]
set_option maxHeartbeats 1000000 in
theorem routeMoved (n hd : Int) (A B C R : Option Addr) (l : List Edg) (ts : List Truck) (ns : List Need) (rn : List Int) (ca cb cc cr : Nat) (w0 : World) (hn : RowsAt 2 needCells w0 C ns) (hm : ∀ x ∈ ns, -32 ≤ x.move ∧ x.move ≤ 32) (hr : IntsAt w0 R rn) (hrl : rn.length ≤ 1000) (hin : ∀ i ∈ rn, 0 ≤ i ∧ i < ns.length) :
    Calls Try.prog 30 #[.agg #[I n, .slice A l.length ca, .slice B ts.length cb, .slice C ns.length cc, I hd], .slice R rn.length cr] w0 fun e w' => e = .returned (I (mvL ns rn)) ∧ Below w0.heap.size w0 w' := by
  have H := SH.refl w0
  refine Calls.ofWP Try.func30 rfl Try.results30 Try.ntmps30 rfl ?_
  refine WP.seq ?_
  refine WP.region ?_
  refine OPS.box rfl rfl rfl rfl (cA rfl) H ?_
  clear H; intro g2 w H
  refine OPS.val rfl rfl rfl (Ev.asI rfl) ?_
  refine OPS.nil ?_
  refine WP.seq ?_
  refine WP.region ?_
  refine OPS.val rfl rfl rfl (Ev.asI rfl) ?_
  refine OPS.nil ?_
  refine WP.seq ?_
  refine WP.seq ?_
  refine WP.region ?_
  refine OPS.val rfl rfl rfl (Ev.mvS rfl) ?_
  refine OPS.val rfl rfl rfl (Ev.len (el_run rfl) rfl) ?_
  refine OPS.val rfl rfl rfl (Ev.mvI rfl) ?_
  refine OPS.nil ?_
  refine WP.block ?_
  refine WP.loop [5, 7, 10, 11, 12, 13, 14, 15, 16, 17, 18, 19, 20, 21, 22, 23, 24, 25, 26, 27, 28, 29, 30] (fun k e w' => ∃ (j : Nat), j + k = rn.length ∧ e 10 = I j ∧ e 5 = I (mvL ns (rn.take j)) ∧ SH w0 [] w' [⟨g2, 28, [I n, .slice A l.length ca, .slice B ts.length cb, .slice C ns.length cc, I hd]⟩]) (rn.length) (⟨0, by omega, rfl, rfl, H⟩) ?_
  clear H
  rintro k u w ⟨j, hk, h10, h5, H⟩
  refine WP.know (t := 10) h10 (WP.know (t := 5) h5 ?_)
  refine WP.seq ?_
  refine WP.region ?_
  refine OPS.val rfl rfl rfl (Ev.lss rfl rfl) ?_
  refine OPS.nil ?_
  refine WP.seq ?_
  refine WP.cond rfl (fun hc3 => ?_) (fun hc3 => ?_)
  · have hlt : j < rn.length := by simpa using hc3
    obtain ⟨br, orr, rfl, hx⟩ := hr j hlt
    have hir := hin rn[j] (List.getElem_mem hlt)
    obtain ⟨i, hi⟩ := Int.eq_ofNat_of_zero_le hir.1
    rw [hi] at hx
    have hil : i < ns.length := by omega
    obtain ⟨bn, on, rfl, hy⟩ := hn i hil
    have hmv := hm ns[i] (List.getElem_mem hil)
    have hbd := mvL_bd hm (rn.take j)
    have htl : (rn.take j).length = j := by rw [List.length_take]; omega
    have hsn := mvL_snoc ns (rn.take j) rn[j]
    rw [← List.take_succ_eq_append_getElem hlt, hi, needAt_eq hil] at hsn
    generalize ns[i] = x at *
    refine WP.skip ?_
    refine WP.seq ?_
    refine WP.block ?_
    refine WP.seq ?_
    refine WP.region ?_
    refine OPS.val rfl rfl rfl ((by exact Ev.indexAddr1 (el_run rfl) (size_run rfl) rfl rfl rfl (by omega))) ?_
    refine OPS.val rfl rfl rfl (Ev.load1 (agg_run rfl) rfl (by exact H.ld0 (by assumption))) ?_
    refine OPS.val rfl rfl rfl (Ev.asI rfl) ?_
    refine OPS.nil ?_
    refine WP.rstill mixed (by kernel_rfl) H ?_
    clear H; intro w hbw5 H
    obtain ⟨q1, q2, _⟩ := cellsAt_sh H hy
    refine OPS.val rfl rfl rfl (Ev.mvI rfl) ?_
    refine OPS.val rfl rfl rfl (Ev.fieldAddr (fld_run rfl) rfl) ?_
    refine OPS.val rfl rfl rfl (Ev.load1 (agg_run rfl) rfl (by exact H.ldL 0 rfl _ rfl)) ?_
    refine OPS.val rfl rfl rfl (Ev.mvI rfl) ?_
    refine OPS.val rfl rfl rfl ((by exact Ev.indexAddr (el_run rfl) (size_run rfl) rfl rfl rfl (by omega))) ?_
    refine OPS.val rfl rfl rfl (Ev.fieldAddr (fld_run rfl) rfl) ?_
    refine OPS.val rfl rfl rfl (Ev.load1 (agg_run rfl) rfl (by assumption)) ?_
    refine OPS.val rfl rfl rfl (Ev.fieldAddr (fld_run rfl) rfl) ?_
    refine OPS.val rfl rfl rfl (Ev.load1 (agg_run rfl) rfl (by exact H.ldL 0 rfl _ rfl)) ?_
    refine OPS.val rfl rfl rfl (Ev.mvI rfl) ?_
    refine OPS.val rfl rfl rfl ((by exact Ev.indexAddr (el_run rfl) (size_run rfl) rfl rfl rfl (by omega))) ?_
    refine OPS.val rfl rfl rfl (Ev.fieldAddr (fld_run rfl) rfl) ?_
    refine OPS.val rfl rfl rfl (Ev.load1 (agg_run rfl) rfl (by assumption)) ?_
    refine OPS.val rfl rfl rfl (Ev.neg rfl (by unfold fits; omega)) ?_
    refine OPS.val rfl rfl rfl (Ev.max rfl rfl) ?_
    refine OPS.val rfl rfl rfl (Ev.add rfl rfl (by unfold fits; omega)) ?_
    refine OPS.val rfl rfl rfl (Ev.asI rfl) ?_
    refine OPS.nil_s ?_
    refine WP.region ?_
    refine OPS.val rfl rfl rfl (Ev.add rfl rfl (by unfold fits; omega)) ?_
    refine OPS.val rfl rfl rfl (Ev.mvI rfl) ?_
    refine OPS.nil ?_
    exact ⟨(by repeat (first | exact Agree.refl _ _ | exact Agree.mix _ _ _ | refine Agree.upd rfl ?_ | refine Agree.mix2 rfl ?_)), k - 1, by omega, j + 1, by omega, rfl, (by rw [hsn]; rfl), H⟩
  refine WP.exit ?_
  refine XB.hit ?_
  refine WP.seq ?_
  refine WP.region ?_
  refine OPS.val rfl rfl rfl (Ev.mvI rfl) ?_
  refine OPS.val rfl rfl rfl (Ev.asI rfl) ?_
  refine OPS.nil ?_
  refine WP.ret ⟨_, rfl, ?_⟩
  have hj : j = rn.length := by simp at hc3; omega
  rw [hj, List.take_length]
  exact ⟨rfl, H.below⟩
end Go.Proofs.Ytfddebpeiilohaa

/-
  Walks: the better of two routes.
-/
set_option linter.all false
namespace Go.Proofs.Ytfddebpeiilohaa
open Go Go.W Go.RowKit

def fndCells (A : Option Addr) (n c : Nat) (m d : Int) (ok : Bool) : List Value := [.slice A n c, I m, I d, .bool ok]
theorem GB.u {want : Bool} : GB undef want false := ⟨by simp [undef]⟩
/-- nothing found yet -/
theorem betterN (v1 v2 v3 : Value) (A : Option Addr) (n c : Nat) (m d : Int) (x1 : Option Addr) (x2 x3 : Nat) (x4 x5 : Int) (w0 : World) :
    Calls Try.prog 28 #[.agg (fndCells x1 x2 x3 x4 x5 false).toArray, .agg (fndCells A n c m d true).toArray] w0 fun e w' => e = .returned (.agg (fndCells A n c m d true).toArray) ∧ Below w0.heap.size w0 w' := by
  have H := SH.refl w0
  unfold fndCells
  refine Calls.ofWPc Try.func28 rfl Try.results28 Try.ntmps28 rfl ?_
  refine WP.seq ?_
  refine WP.region ?_
  refine OPS.box rfl rfl rfl rfl (cA rfl) H ?_
  clear H; intro g2 w H
  refine OPS.box rfl rfl rfl rfl (cA rfl) H ?_
  clear H; intro g3 w H
  refine OPS.alloc rfl rfl rfl rfl (zero_run rfl) rfl H ?_
  clear H; intro g4 w H
  refine OPS.nil ?_
  refine WP.seq ?_
  refine WP.seq ?_
  refine WP.rquiet mixed (by kernel_rfl) H ?_
  clear H; intro w hbw1 H
  refine OPS.val rfl rfl rfl (Ev.fieldAddr (fld_run rfl) rfl) ?_
  refine OPS.val rfl rfl rfl (Ev.load1 (agg_run rfl) rfl (by exact H.ldL 2 rfl _ rfl)) ?_
  refine OPS.val rfl rfl rfl (Ev.not rfl) ?_
  refine OPS.val rfl rfl rfl (Ev.mvB rfl) ?_
  refine OPS.gnoN rfl rfl (GB.b (b := true) rfl) rfl rfl ?_
  refine OPS.gnoN rfl rfl (GB.b (b := true) rfl) rfl rfl ?_
  refine OPS.gnoN rfl rfl (GB.b (b := true) rfl) rfl rfl ?_
  refine OPS.gnoN rfl rfl GB.u rfl rfl ?_
  refine OPS.gnoN rfl rfl GB.u rfl rfl ?_
  refine OPS.gnoN rfl rfl GB.u rfl rfl ?_
  refine OPS.gnoN rfl rfl GB.u rfl rfl ?_
  refine OPS.gnoN rfl rfl GB.u rfl rfl ?_
  refine OPS.gnoN rfl rfl GB.u rfl rfl ?_
  refine OPS.gnoN rfl rfl GB.u rfl rfl ?_
  refine OPS.gnoN rfl rfl GB.u rfl rfl ?_
  refine OPS.gnoN rfl rfl GB.u rfl rfl ?_
  refine OPS.gnoN rfl rfl GB.u rfl rfl ?_
  refine OPS.gnoN rfl rfl GB.u rfl rfl ?_
  refine OPS.gnoN rfl rfl GB.u rfl rfl ?_
  refine OPS.gnoN rfl rfl GB.u rfl rfl ?_
  refine OPS.gnoN rfl rfl GB.u rfl rfl ?_
  refine OPS.gnoN rfl rfl GB.u rfl rfl ?_
  refine OPS.gnoN rfl rfl GB.u rfl rfl ?_
  refine OPS.gnoN rfl rfl GB.u rfl rfl ?_
  refine OPS.gnoN rfl rfl GB.u rfl rfl ?_
  refine OPS.gnoN rfl rfl (GB.b (b := true) rfl) rfl rfl ?_
  refine OPS.val rfl rfl rfl (Ev.pick (b := true) rfl) ?_
  refine OPS.nilq H ?_
  clear H; intro w hbx1 H
  refine WP.cond rfl (fun hc1 => ?_) (fun hc1 => ?_)
  · refine WP.seq ?_
    refine WP.region ?_
    refine OPS.val rfl rfl rfl ((by exact Ev.loadO 1 H rfl (agg_run rfl) (size_run rfl) (by rfl) rfl)) ?_
    refine OPS.store 0 _ rfl rfl rfl (size_run rfl) rfl (cA rfl) rfl rfl H rfl (by simp) ?_
    clear H; intro w H; try simp only [List.set_cons_zero, List.set_cons_succ, putL, Nat.zero_add] at H
    refine OPS.nil ?_
    refine WP.ret ⟨[_], ⟨(by exact resCellA 0 H rfl (agg_run rfl) (size_run rfl) (by rfl) rfl), trivial⟩, ?_⟩
    exact ⟨rfl, H.below⟩
  refine WP.skip ?_
  refine WP.seq ?_
  refine WP.region ?_
  refine OPS.val rfl rfl rfl ((by exact Ev.loadO 2 H rfl (agg_run rfl) (size_run rfl) (by rfl) rfl)) ?_
  refine OPS.store 0 _ rfl rfl rfl (size_run rfl) rfl (cA rfl) rfl rfl H rfl (by simp) ?_
  clear H; intro w H; try simp only [List.set_cons_zero, List.set_cons_succ, putL, Nat.zero_add] at H
  refine OPS.nil ?_
  refine WP.ret ⟨[_], ⟨(by exact resCellA 0 H rfl (agg_run rfl) (size_run rfl) (by rfl) rfl), trivial⟩, ?_⟩
  cases hc1
set_option maxHeartbeats 1000000 in
theorem betterY (A : Option Addr) (a : List Int) (ca : Nat) (ma da : Int) (B : Option Addr) (b : List Int) (cb : Nat) (mb db : Int) (w0 : World) (ha : IntsAt w0 A a) (hb : IntsAt w0 B b) (hal : a.length ≤ 1000) (hbl : b.length ≤ 1000) :
    Calls Try.prog 28 #[.agg (fndCells A a.length ca ma da true).toArray, .agg (fndCells B b.length cb mb db true).toArray] w0 fun e w' => e = .returned (if orI [cmpI ma mb, cmpI db da, cmpLs b a] < 0 then .agg (fndCells B b.length cb mb db true).toArray else .agg (fndCells A a.length ca ma da true).toArray) ∧ Below w0.heap.size w0 w' := by
  have H := SH.refl w0
  unfold fndCells
  refine Calls.ofWPc Try.func28 rfl Try.results28 Try.ntmps28 rfl ?_
  refine WP.seq ?_
  refine WP.region ?_
  refine OPS.box rfl rfl rfl rfl (cA rfl) H ?_
  clear H; intro g2 w H
  refine OPS.box rfl rfl rfl rfl (cA rfl) H ?_
  clear H; intro g3 w H
  refine OPS.alloc rfl rfl rfl rfl (zero_run rfl) rfl H ?_
  clear H; intro g4 w H
  refine OPS.nil ?_
  refine WP.seq ?_
  refine WP.seq ?_
  refine WP.rheldC [5, 6, 7, 8, 9, 10, 11, 12, 13, 14, 15, 16, 17, 18, 19, 20, 21, 22, 23, 24, 25, 26, 27, 28, 29, 30, 31] (fun u w' => u 31 = .bool (decide (orI [cmpI ma mb, cmpI db da, cmpLs b a] < 0)) ∧ SH w0 [] w' [⟨g4, 49, [.slice none 0 0, I 0, I 0, .bool false]⟩, ⟨g3, 49, [.slice B b.length cb, I mb, I db, .bool true]⟩, ⟨g2, 49, [.slice A a.length ca, I ma, I da, .bool true]⟩]) mixed H ?_ ?_
  · clear H; intro w hbw1 H
    refine OPH.take 0 rfl rfl rfl rfl (by kernel_rfl) (by kernel_rfl) (by kernel_rfl) rfl (by exact H) (fun w H => Ev.fieldAddr (fld_run rfl) rfl) ?_
    refine OPH.take 1 rfl rfl rfl rfl (by kernel_rfl) (by kernel_rfl) (by kernel_rfl) rfl (by exact H) (fun w H => Ev.load1 (agg_run rfl) rfl (by exact H.ldL 2 rfl _ rfl)) ?_
    refine OPH.take 2 rfl rfl rfl rfl (by kernel_rfl) (by kernel_rfl) (by kernel_rfl) rfl (by exact H) (fun w H => Ev.not rfl) ?_
    refine OPH.take 3 rfl rfl rfl rfl (by kernel_rfl) (by kernel_rfl) (by kernel_rfl) rfl (by exact H) (fun w H => Ev.mvB rfl) ?_
    refine OPH.takeY 4 rfl rfl rfl rfl rfl rfl (by kernel_rfl) (by kernel_rfl) (by kernel_rfl) rfl (by exact H) (fun w H => Ev.fieldAddr (fld_run rfl) rfl) ?_
    refine OPH.takeY 5 rfl rfl rfl rfl rfl rfl (by kernel_rfl) (by kernel_rfl) (by kernel_rfl) rfl (by exact H) (fun w H => Ev.load1 (agg_run rfl) rfl (by exact H.ldL 1 rfl _ rfl)) ?_
    refine OPH.takeY 6 rfl rfl rfl rfl rfl rfl (by kernel_rfl) (by kernel_rfl) (by kernel_rfl) rfl (by exact H) (fun w H => Ev.mvB rfl) ?_
    refine OPH.takeY 7 rfl rfl rfl rfl rfl rfl (by kernel_rfl) (by kernel_rfl) (by kernel_rfl) rfl (by exact H) (fun w H => Ev.fieldAddr (fld_run rfl) rfl) ?_
    refine OPH.takeY 8 rfl rfl rfl rfl rfl rfl (by kernel_rfl) (by kernel_rfl) (by kernel_rfl) rfl (by exact H) (fun w H => Ev.load1 (agg_run rfl) rfl (by exact H.ldL 2 rfl _ rfl)) ?_
    refine OPH.takeY 9 rfl rfl rfl rfl rfl rfl (by kernel_rfl) (by kernel_rfl) (by kernel_rfl) rfl (by exact H) (fun w H => Ev.fieldAddr (fld_run rfl) rfl) ?_
    refine OPH.takeY 10 rfl rfl rfl rfl rfl rfl (by kernel_rfl) (by kernel_rfl) (by kernel_rfl) rfl (by exact H) (fun w H => Ev.load1 (agg_run rfl) rfl (by exact H.ldL 1 rfl _ rfl)) ?_
    refine OPH.takeY 12 rfl rfl rfl rfl rfl rfl (by kernel_rfl) (by kernel_rfl) (by kernel_rfl) rfl (by exact H) (fun w H => Ev.fieldAddr (fld_run rfl) rfl) ?_
    refine OPH.takeY 13 rfl rfl rfl rfl rfl rfl (by kernel_rfl) (by kernel_rfl) (by kernel_rfl) rfl (by exact H) (fun w H => Ev.load1 (agg_run rfl) rfl (by exact H.ldL 1 rfl _ rfl)) ?_
    refine OPH.takeY 14 rfl rfl rfl rfl rfl rfl (by kernel_rfl) (by kernel_rfl) (by kernel_rfl) rfl (by exact H) (fun w H => Ev.fieldAddr (fld_run rfl) rfl) ?_
    refine OPH.takeY 15 rfl rfl rfl rfl rfl rfl (by kernel_rfl) (by kernel_rfl) (by kernel_rfl) rfl (by exact H) (fun w H => Ev.load1 (agg_run rfl) rfl (by exact H.ldL 2 rfl _ rfl)) ?_
    refine OPH.takeY 17 rfl rfl rfl rfl rfl rfl (by kernel_rfl) (by kernel_rfl) (by kernel_rfl) rfl (by exact H) (fun w H => Ev.fieldAddr (fld_run rfl) rfl) ?_
    refine OPH.takeY 18 rfl rfl rfl rfl rfl rfl (by kernel_rfl) (by kernel_rfl) (by kernel_rfl) rfl (by exact H) (fun w H => Ev.load1 (agg_run rfl) rfl (by exact H.ldL 1 rfl _ rfl)) ?_
    refine OPH.takeY 19 rfl rfl rfl rfl rfl rfl (by kernel_rfl) (by kernel_rfl) (by kernel_rfl) rfl (by exact H) (fun w H => Ev.fieldAddr (fld_run rfl) rfl) ?_
    refine OPH.takeY 20 rfl rfl rfl rfl rfl rfl (by kernel_rfl) (by kernel_rfl) (by kernel_rfl) rfl (by exact H) (fun w H => Ev.load1 (agg_run rfl) rfl (by exact H.ldL 2 rfl _ rfl)) ?_
    refine OPH.all [11] (by kernel_rfl) (by simp) rfl ?_
    intro i hi; simp only [List.mem_cons, List.not_mem_nil, or_false] at hi
    rcases hi with rfl
    · refine ⟨_, rfl, ?_⟩
      refine OPS.gyes rfl rfl rfl rfl ?_
      refine OPS.call (d := some 16) rfl rfl rfl (EvC.func (fun_run rfl)) (cmpCompare ma mb w) ?_
      rintro _ w ⟨rfl, hb'⟩
      refine ⟨_, rfl, ?_⟩
      replace H := H.toBelow hb'; clear hb'
      refine OPS.nil ?_
      refine ⟨(by exact H), ?_⟩
      refine OPH.all [16] (by kernel_rfl) (by simp) rfl ?_
      intro i hi; simp only [List.mem_cons, List.not_mem_nil, or_false] at hi
      rcases hi with rfl
      · refine ⟨_, rfl, ?_⟩
        refine OPS.gyes rfl rfl rfl rfl ?_
        refine OPS.call (d := some 21) rfl rfl rfl (EvC.func (fun_run rfl)) (cmpCompare db da w) ?_
        rintro _ w ⟨rfl, hb'⟩
        refine ⟨_, rfl, ?_⟩
        replace H := H.toBelow hb'; clear hb'
        refine OPS.nil ?_
        refine ⟨(by exact H), ?_⟩
        refine OPH.all [21] (by kernel_rfl) (by simp) rfl ?_
        intro i hi; simp only [List.mem_cons, List.not_mem_nil, or_false] at hi
        rcases hi with rfl
        · refine ⟨_, rfl, ?_⟩
          refine OPS.gyes rfl rfl rfl rfl ?_
          refine OPS.call (d := some 26) rfl rfl rfl (EvC.func (fun_run rfl)) (slCompare B A b a cb ca w (hb.sh H) (ha.sh H) hbl hal) ?_
          rintro _ w ⟨rfl, hb'⟩
          refine ⟨_, rfl, ?_⟩
          replace H := H.toBelow hb'; clear hb'
          refine OPS.nil ?_
          refine ⟨(by exact H), ?_⟩
          refine OPH.all [22] (by kernel_rfl) (by simp) rfl ?_
          intro i hi; simp only [List.mem_cons, List.not_mem_nil, or_false] at hi
          rcases hi with rfl
          · refine ⟨_, rfl, ?_⟩
            refine OPS.gyes rfl rfl rfl rfl ?_
            refine OPS.buildSlice rfl rfl rfl rfl (bsl_29_3_0_1_2 rfl rfl rfl) H ?_
            clear H; intro g27 w E
            have H := E.drop (List.sublist_cons_self _ _)
            refine OPS.nil ?_
            refine ⟨(by exact H), ?_⟩
            refine OPH.all [23] (by kernel_rfl) (by simp) rfl ?_
            intro i hi; simp only [List.mem_cons, List.not_mem_nil, or_false] at hi
            rcases hi with rfl
            · refine ⟨_, rfl, ?_⟩
              refine OPS.gyes rfl rfl rfl rfl ?_
              refine OPS.call (d := some 28) rfl rfl rfl (EvC.func (fun_run rfl)) (cmpOr (some ⟨g27, 0, none⟩) [cmpI ma mb, cmpI db da, cmpLs b a] 3 w (OnesAt.own (l := [cmpI ma mb, cmpI db da, cmpLs b a]) E 0 rfl (post := []) rfl) (by simp)) ?_
              rintro _ w ⟨rfl, hb'⟩
              refine ⟨_, rfl, ?_⟩
              replace H := H.toBelow hb'; clear hb'
              refine OPS.nil ?_
              refine ⟨(by exact H), ?_⟩
              refine OPH.takeY 24 rfl rfl rfl rfl rfl rfl (by kernel_rfl) (by kernel_rfl) (by kernel_rfl) rfl (by exact H) (fun w H => Ev.lss rfl rfl) ?_
              refine OPH.takeY 25 rfl rfl rfl rfl rfl rfl (by kernel_rfl) (by kernel_rfl) (by kernel_rfl) rfl (by exact H) (fun w H => Ev.pick (b := true) rfl) ?_
              refine OPH.take 26 rfl rfl rfl rfl (by kernel_rfl) (by kernel_rfl) (by kernel_rfl) rfl (by exact H) (fun w H => Ev.pick (b := false) rfl) ?_
              refine OPH.done (by kernel_rfl) ?_
              exact ⟨(by repeat (first | exact Agree.refl _ _ | exact Agree.mix _ _ _ | refine Agree.upd rfl ?_ | refine Agree.mix2 rfl ?_)), rfl, H⟩
  clear H
  rintro u w ⟨h31, H⟩
  refine WP.know (t := 31) h31 ?_
  refine WP.cond rfl (fun hc1 => ?_) (fun hc1 => ?_)
  · refine WP.seq ?_
    refine WP.region ?_
    refine OPS.val rfl rfl rfl ((by exact Ev.loadO 1 H rfl (agg_run rfl) (size_run rfl) (by rfl) rfl)) ?_
    refine OPS.store 0 _ rfl rfl rfl (size_run rfl) rfl (cA rfl) rfl rfl H rfl (by simp) ?_
    clear H; intro w H; try simp only [List.set_cons_zero, List.set_cons_succ, putL, Nat.zero_add] at H
    refine OPS.nil ?_
    refine WP.ret ⟨[_], ⟨(by exact resCellA 0 H rfl (agg_run rfl) (size_run rfl) (by rfl) rfl), trivial⟩, ?_⟩
    have h : orI [cmpI ma mb, cmpI db da, cmpLs b a] < 0 := by simpa using hc1
    exact ⟨by rw [if_pos h]; rfl, H.below⟩
  refine WP.skip ?_
  refine WP.seq ?_
  refine WP.region ?_
  refine OPS.val rfl rfl rfl ((by exact Ev.loadO 2 H rfl (agg_run rfl) (size_run rfl) (by rfl) rfl)) ?_
  refine OPS.store 0 _ rfl rfl rfl (size_run rfl) rfl (cA rfl) rfl rfl H rfl (by simp) ?_
  clear H; intro w H; try simp only [List.set_cons_zero, List.set_cons_succ, putL, Nat.zero_add] at H
  refine OPS.nil ?_
  refine WP.ret ⟨[_], ⟨(by exact resCellA 0 H rfl (agg_run rfl) (size_run rfl) (by rfl) rfl), trivial⟩, ?_⟩
  have h : ¬ orI [cmpI ma mb, cmpI db da, cmpLs b a] < 0 := by simpa using hc1
  exact ⟨by rw [if_neg h]; rfl, H.below⟩
end Go.Proofs.Ytfddebpeiilohaa
