/-
  Walks: in, the functions of slices and cmp, twice.
-/
import Derived.Test.YtfddebpeiilohaaT4
set_option linter.all false
namespace Go.Proofs.Ytfddebpeiilohaa
open Go Go.W Go.RowKit

def inB (n lo hi : Int) : Bool := decide (lo ≤ n) && decide (n ≤ hi)
theorem truckIn (n lo hi : Int) (w0 : World) :
    Calls Try.prog 50 #[I n, I lo, I hi] w0 fun e w' => e = .returned (.bool (inB n lo hi)) ∧ Below w0.heap.size w0 w' := by
  have H := SH.refl w0
  refine Calls.ofWP Try.func50 rfl Try.results50 Try.ntmps50 rfl ?_
  refine WP.seq ?_
  refine WP.region ?_
  refine OPS.val rfl rfl rfl (Ev.asB rfl) ?_
  refine OPS.nil ?_
  refine WP.seq ?_
  refine WP.region ?_
  refine OPS.val rfl rfl rfl (Ev.mvI rfl) ?_
  refine OPS.val rfl rfl rfl (Ev.mvI rfl) ?_
  refine OPS.val rfl rfl rfl (Ev.leq rfl rfl) ?_
  refine OPS.val rfl rfl rfl (Ev.mvB rfl) ?_
  refine OPS.gval rfl rfl rfl rfl rfl (fun hg => Ev.mvI (by rfl)) ?_
  refine OPS.gval rfl rfl rfl rfl rfl (fun hg => Ev.mvI (by rfl)) ?_
  refine OPS.gval rfl rfl rfl rfl rfl (fun hg => Ev.leq (by exact gvE hg rfl) (by exact gvE hg rfl)) ?_
  refine OPS.val rfl rfl rfl ((by exact Ev.pickAnd rfl rfl rfl)) ?_
  refine OPS.val rfl rfl rfl (Ev.asB rfl) ?_
  refine OPS.nil ?_
  refine WP.ret ⟨_, rfl, ?_⟩
  exact ⟨rfl, H.below⟩

theorem slIndex (A : Option Addr) (l : List Int) (cap : Nat) (x : Int) (w0 : World) (hz : IntsAt w0 A l) (hl : l.length ≤ maxLen) :
    Calls Try.prog 76 #[.slice A l.length cap, I x] w0 fun e w' => ∃ r : Int, e = .returned (I r) ∧ (0 ≤ r ↔ x ∈ l) ∧ Below w0.heap.size w0 w' := by
  have H := SH.refl w0
  have hl' : l.length ≤ 9223372036854775807 := by unfold maxLen at hl; omega
  refine Calls.ofWP Try.func76 rfl Try.results76 Try.ntmps76 rfl ?_
  refine WP.seq ?_
  refine WP.region ?_
  refine OPS.val rfl rfl rfl (Ev.asI rfl) ?_
  refine OPS.nil ?_
  refine WP.seq ?_
  refine WP.seq ?_
  refine WP.region ?_
  refine OPS.val rfl rfl rfl (Ev.mvS rfl) ?_
  refine OPS.val rfl rfl rfl (Ev.len (el_run rfl) rfl) ?_
  refine OPS.val rfl rfl rfl (Ev.mvI rfl) ?_
  refine OPS.nil ?_
  refine WP.block ?_
  refine WP.loop [4, 5, 8, 9, 10, 11, 12, 13, 14, 15, 16, 17, 18] (fun k e w' => ∃ j : Nat, j + k = l.length ∧ e 8 = I j ∧ SH w0 [] w' [] ∧ ∀ i (h : i < l.length), i < j → l[i] ≠ x) (l.length) (⟨0, by omega, rfl, H, fun i _ hi => absurd hi (by omega)⟩) ?_
  clear H
  rintro k u w ⟨j, hk, h8, H, hall⟩
  refine WP.know (t := 8) h8 ?_
  refine WP.seq ?_
  refine WP.region ?_
  refine OPS.val rfl rfl rfl (Ev.lss rfl rfl) ?_
  refine OPS.nil ?_
  refine WP.seq ?_
  refine WP.cond rfl (fun hc2 => ?_) (fun hc2 => ?_)
  · have hlt : j < l.length := by simpa using hc2
    obtain ⟨b, o, rfl, hx⟩ := hz j hlt
    refine WP.skip ?_
    refine WP.seq ?_
    refine WP.block ?_
    refine WP.seq ?_
    refine WP.region ?_
    refine OPS.val rfl rfl rfl (Ev.mvI rfl) ?_
    refine OPS.val rfl rfl rfl (Ev.asI rfl) ?_
    refine OPS.nil ?_
    refine WP.seq ?_
    refine WP.region ?_
    refine OPS.val rfl rfl rfl (Ev.mvI rfl) ?_
    refine OPS.val rfl rfl rfl (Ev.mvS rfl) ?_
    refine OPS.val rfl rfl rfl (Ev.mvI rfl) ?_
    refine OPS.val rfl rfl rfl ((by exact Ev.indexAddr1 (el_run rfl) (size_run rfl) rfl rfl rfl (by omega))) ?_
    refine OPS.val rfl rfl rfl (Ev.load1 (agg_run rfl) rfl (by exact H.ld0 (by assumption))) ?_
    refine OPS.val rfl rfl rfl (Ev.eql rfl rfl) ?_
    refine OPS.nil ?_
    refine WP.cond rfl (fun hc4 => ?_) (fun hc4 => ?_)
    · refine WP.seq ?_
      refine WP.region ?_
      refine OPS.val rfl rfl rfl (Ev.mvI rfl) ?_
      refine OPS.val rfl rfl rfl (Ev.asI rfl) ?_
      refine OPS.nil ?_
      refine WP.ret ⟨_, rfl, ?_⟩
      have he : x = l[j] := by simpa using hc4
      exact ⟨j, rfl, ⟨fun _ => by rw [he]; exact List.getElem_mem hlt, fun _ => by omega⟩, H.below⟩
    refine WP.skip ?_
    refine WP.region ?_
    refine OPS.val rfl rfl rfl (Ev.add rfl rfl (by unfold fits; omega)) ?_
    refine OPS.val rfl rfl rfl (Ev.mvI rfl) ?_
    refine OPS.nil ?_
    refine ⟨(by repeat (first | exact Agree.refl _ _ | exact Agree.mix _ _ _ | refine Agree.upd rfl ?_ | refine Agree.mix2 rfl ?_)), k - 1, by omega, j + 1, by omega, rfl, H, fun i hi hij => ?_⟩
    rcases Nat.lt_succ_iff_lt_or_eq.1 hij with h | rfl
    · exact hall i hi h
    · have : ¬ x = l[i] := by simpa using hc4
      exact fun h => this h.symm
  refine WP.exit ?_
  refine XB.hit ?_
  refine WP.seq ?_
  refine WP.region ?_
  refine OPS.val rfl rfl rfl (Ev.asI rfl) ?_
  refine OPS.nil ?_
  refine WP.ret ⟨_, rfl, ?_⟩
  refine ⟨-1, rfl, ⟨fun h => absurd h (by omega), fun h => ?_⟩, H.below⟩
  obtain ⟨i, hi, he⟩ := List.mem_iff_getElem.1 h
  exact absurd he (hall i hi (by simp at hc2; omega))

theorem slContains (A : Option Addr) (l : List Int) (cap : Nat) (x : Int) (w0 : World) (hz : IntsAt w0 A l) (hl : l.length ≤ maxLen) :
    Calls Try.prog 70 #[.slice A l.length cap, I x] w0 fun e w' => e = .returned (.bool (decide (x ∈ l))) ∧ Below w0.heap.size w0 w' := by
  have H := SH.refl w0
  refine Calls.ofWP Try.func70 rfl Try.results70 Try.ntmps70 rfl ?_
  refine WP.seq ?_
  refine WP.region ?_
  refine OPS.val rfl rfl rfl (Ev.asB rfl) ?_
  refine OPS.nil ?_
  refine WP.seq ?_
  refine WP.region ?_
  refine OPS.val rfl rfl rfl (Ev.mvS rfl) ?_
  refine OPS.val rfl rfl rfl (Ev.mvI rfl) ?_
  refine OPS.call (d := some 7) rfl rfl rfl (EvC.func (fun_run rfl)) (slIndex A l cap x w0 hz hl) ?_
  rintro _ w ⟨r, rfl, hr, hb⟩
  refine ⟨_, rfl, ?_⟩
  replace H := H.toBelow hb; clear hb
  refine OPS.val rfl rfl rfl (Ev.geq rfl rfl) ?_
  refine OPS.val rfl rfl rfl (Ev.asB rfl) ?_
  refine OPS.nil ?_
  refine WP.ret ⟨_, rfl, ?_⟩
  exact ⟨by rw [decide_eq_decide.2 hr.symm]; rfl, H.below⟩

/-- IndexFunc over needs, of a function without effects -/
structure Need where
  node : Int
  move : Int
instance : Inhabited Need := ⟨⟨0, 0⟩⟩
def needCells (x : Need) : List Value := [I x.node, I x.move]
theorem needCells_len (x : Need) : (needCells x).length = 2 := rfl
theorem slIndexFuncN (A : Option Addr) (l : List Need) (cap : Nat) (f : Nat) (caps : List Value) (p : Need → Bool) (w0 : World) (hz : RowsAt 2 needCells w0 A l) (hl : l.length ≤ maxLen) (hfun : funT f = true)
    (hf : ∀ x ∈ l, ∀ w, Below w0.heap.size w0 w → Calls Try.prog f ([Value.agg (needCells x).toArray] ++ caps).toArray w fun e w' => e = .returned (.bool (p x)) ∧ Below w.heap.size w w') :
    Calls Try.prog 69 #[.slice A l.length cap, .func (.func f) #[] caps.toArray] w0 fun e w' => ∃ r : Int, e = .returned (I r) ∧ (0 ≤ r ↔ l.any p = true) ∧ Below w0.heap.size w0 w' := by
  have H := SH.refl w0
  have hl' : l.length ≤ 9223372036854775807 := by unfold maxLen at hl; omega
  refine Calls.ofWP Try.func69 rfl Try.results69 Try.ntmps69 rfl ?_
  refine WP.seq ?_
  refine WP.region ?_
  refine OPS.val rfl rfl rfl (Ev.asI rfl) ?_
  refine OPS.nil ?_
  refine WP.seq ?_
  refine WP.seq ?_
  refine WP.region ?_
  refine OPS.val rfl rfl rfl (Ev.mvS rfl) ?_
  refine OPS.val rfl rfl rfl (Ev.len (el_run rfl) rfl) ?_
  refine OPS.val rfl rfl rfl (Ev.mvI rfl) ?_
  refine OPS.nil ?_
  refine WP.block ?_
  refine WP.loop [4, 5, 8, 9, 10, 11, 12, 13, 14, 15, 16, 17, 18] (fun k e w' => ∃ j : Nat, j + k = l.length ∧ e 8 = I j ∧ SH w0 [] w' [] ∧ ∀ i (h : i < l.length), i < j → p l[i] = false) (l.length) (⟨0, by omega, rfl, H, fun i _ hi => absurd hi (by omega)⟩) ?_
  clear H
  rintro k u w ⟨j, hk, h8, H, hall⟩
  refine WP.know (t := 8) h8 ?_
  refine WP.seq ?_
  refine WP.region ?_
  refine OPS.val rfl rfl rfl (Ev.lss rfl rfl) ?_
  refine OPS.nil ?_
  refine WP.seq ?_
  refine WP.cond rfl (fun hc2 => ?_) (fun hc2 => ?_)
  · have hlt : j < l.length := by simpa using hc2
    obtain ⟨b, o, rfl, hx⟩ := hz j hlt
    refine WP.skip ?_
    refine WP.seq ?_
    refine WP.block ?_
    refine WP.seq ?_
    refine WP.region ?_
    refine OPS.val rfl rfl rfl (Ev.mvI rfl) ?_
    refine OPS.val rfl rfl rfl (Ev.asI rfl) ?_
    refine OPS.nil ?_
    refine WP.seq ?_
    refine WP.region ?_
    refine OPS.val rfl rfl rfl (Ev.mvF rfl) ?_
    refine OPS.val rfl rfl rfl (Ev.mvS rfl) ?_
    refine OPS.val rfl rfl rfl (Ev.mvI rfl) ?_
    refine OPS.val rfl rfl rfl ((by exact Ev.indexAddr (el_run rfl) (size_run rfl) rfl rfl rfl (by omega))) ?_
    refine OPS.val rfl rfl rfl ((by (change Ev _ _ _ _ (Op.load 64 (Operand.tmp 14)) _; exact Ev.loadN (needCells l[j]) (agg_run rfl) (size_run rfl) rfl (cellsAt_sh H hx)))) ?_
    refine OPS.call (d := some 16) rfl rfl rfl (EvC.clos rfl (fun_run (by assumption))) (hf l[j] (List.getElem_mem hlt) w H.below) ?_
    rintro _ w ⟨rfl, hb⟩
    refine ⟨_, rfl, ?_⟩
    replace H := H.toBelow hb; clear hb
    refine OPS.nil ?_
    refine WP.cond rfl (fun hc4 => ?_) (fun hc4 => ?_)
    · refine WP.seq ?_
      refine WP.region ?_
      refine OPS.val rfl rfl rfl (Ev.mvI rfl) ?_
      refine OPS.val rfl rfl rfl (Ev.asI rfl) ?_
      refine OPS.nil ?_
      refine WP.ret ⟨_, rfl, ?_⟩
      exact ⟨j, rfl, ⟨fun _ => List.any_eq_true.2 ⟨l[j], List.getElem_mem hlt, hc4⟩, fun _ => by omega⟩, H.below⟩
    refine WP.skip ?_
    refine WP.region ?_
    refine OPS.val rfl rfl rfl (Ev.add rfl rfl (by unfold fits; omega)) ?_
    refine OPS.val rfl rfl rfl (Ev.mvI rfl) ?_
    refine OPS.nil ?_
    refine ⟨(by repeat (first | exact Agree.refl _ _ | exact Agree.mix _ _ _ | refine Agree.upd rfl ?_ | refine Agree.mix2 rfl ?_)), k - 1, by omega, j + 1, by omega, rfl, H, fun i hi hij => ?_⟩
    rcases Nat.lt_succ_iff_lt_or_eq.1 hij with h | rfl
    · exact hall i hi h
    · exact hc4
  refine WP.exit ?_
  refine XB.hit ?_
  refine WP.seq ?_
  refine WP.region ?_
  refine OPS.val rfl rfl rfl (Ev.asI rfl) ?_
  refine OPS.nil ?_
  refine WP.ret ⟨_, rfl, ?_⟩
  refine ⟨-1, rfl, ⟨fun h => absurd h (by omega), fun h => ?_⟩, H.below⟩
  obtain ⟨x, hx, he⟩ := List.any_eq_true.1 h
  obtain ⟨i, hi, rfl⟩ := List.mem_iff_getElem.1 hx
  rw [hall i hi (by simp at hc2; omega)] at he; cases he
theorem slContainsFuncN (A : Option Addr) (l : List Need) (cap : Nat) (f : Nat) (caps : List Value) (p : Need → Bool) (w0 : World) (hz : RowsAt 2 needCells w0 A l) (hl : l.length ≤ maxLen) (hfun : funT f = true)
    (hf : ∀ x ∈ l, ∀ w, Below w0.heap.size w0 w → Calls Try.prog f ([Value.agg (needCells x).toArray] ++ caps).toArray w fun e w' => e = .returned (.bool (p x)) ∧ Below w.heap.size w w') :
    Calls Try.prog 51 #[.slice A l.length cap, .func (.func f) #[] caps.toArray] w0 fun e w' => e = .returned (.bool (l.any p)) ∧ Below w0.heap.size w0 w' := by
  have H := SH.refl w0
  refine Calls.ofWP Try.func51 rfl Try.results51 Try.ntmps51 rfl ?_
  refine WP.seq ?_
  refine WP.region ?_
  refine OPS.val rfl rfl rfl (Ev.asB rfl) ?_
  refine OPS.nil ?_
  refine WP.seq ?_
  refine WP.region ?_
  refine OPS.val rfl rfl rfl (Ev.mvS rfl) ?_
  refine OPS.val rfl rfl rfl (Ev.mvF rfl) ?_
  refine OPS.call (d := some 7) rfl rfl rfl (EvC.func (fun_run rfl)) (slIndexFuncN A l cap f caps p w0 hz hl hfun hf) ?_
  rintro _ w ⟨r, rfl, hr, hb⟩
  refine ⟨_, rfl, ?_⟩
  replace H := H.toBelow hb; clear hb
  refine OPS.val rfl rfl rfl (Ev.geq rfl rfl) ?_
  refine OPS.val rfl rfl rfl (Ev.asB rfl) ?_
  refine OPS.nil ?_
  refine WP.ret ⟨_, rfl, ?_⟩
  have : l.any p = decide (0 ≤ r) := by
    cases h : l.any p with
    | true => exact (decide_eq_true (hr.2 h)).symm
    | false => exact (decide_eq_false fun q => by rw [hr.1 q] at h; cases h).symm
  exact ⟨by rw [this]; rfl, H.below⟩
theorem slIndexFuncI (A : Option Addr) (l : List Int) (cap : Nat) (f : Nat) (caps : List Value) (p : Int → Bool) (w0 : World) (hz : IntsAt w0 A l) (hl : l.length ≤ maxLen) (hfun : funT f = true)
    (hf : ∀ x ∈ l, ∀ w, Below w0.heap.size w0 w → Calls Try.prog f ([(I x : Value)] ++ caps).toArray w fun e w' => e = .returned (.bool (p x)) ∧ Below w.heap.size w w') :
    Calls Try.prog 60 #[.slice A l.length cap, .func (.func f) #[] caps.toArray] w0 fun e w' => ∃ r : Int, e = .returned (I r) ∧ (0 ≤ r ↔ l.any p = true) ∧ Below w0.heap.size w0 w' := by
  have H := SH.refl w0
  have hl' : l.length ≤ 9223372036854775807 := by unfold maxLen at hl; omega
  refine Calls.ofWP Try.func60 rfl Try.results60 Try.ntmps60 rfl ?_
  refine WP.seq ?_
  refine WP.region ?_
  refine OPS.val rfl rfl rfl (Ev.asI rfl) ?_
  refine OPS.nil ?_
  refine WP.seq ?_
  refine WP.seq ?_
  refine WP.region ?_
  refine OPS.val rfl rfl rfl (Ev.mvS rfl) ?_
  refine OPS.val rfl rfl rfl (Ev.len (el_run rfl) rfl) ?_
  refine OPS.val rfl rfl rfl (Ev.mvI rfl) ?_
  refine OPS.nil ?_
  refine WP.block ?_
  refine WP.loop [4, 5, 8, 9, 10, 11, 12, 13, 14, 15, 16, 17, 18] (fun k e w' => ∃ j : Nat, j + k = l.length ∧ e 8 = I j ∧ SH w0 [] w' [] ∧ ∀ i (h : i < l.length), i < j → p l[i] = false) (l.length) (⟨0, by omega, rfl, H, fun i _ hi => absurd hi (by omega)⟩) ?_
  clear H
  rintro k u w ⟨j, hk, h8, H, hall⟩
  refine WP.know (t := 8) h8 ?_
  refine WP.seq ?_
  refine WP.region ?_
  refine OPS.val rfl rfl rfl (Ev.lss rfl rfl) ?_
  refine OPS.nil ?_
  refine WP.seq ?_
  refine WP.cond rfl (fun hc2 => ?_) (fun hc2 => ?_)
  · have hlt : j < l.length := by simpa using hc2
    obtain ⟨b, o, rfl, hx⟩ := hz j hlt
    refine WP.skip ?_
    refine WP.seq ?_
    refine WP.block ?_
    refine WP.seq ?_
    refine WP.region ?_
    refine OPS.val rfl rfl rfl (Ev.mvI rfl) ?_
    refine OPS.val rfl rfl rfl (Ev.asI rfl) ?_
    refine OPS.nil ?_
    refine WP.seq ?_
    refine WP.region ?_
    refine OPS.val rfl rfl rfl (Ev.mvF rfl) ?_
    refine OPS.val rfl rfl rfl (Ev.mvS rfl) ?_
    refine OPS.val rfl rfl rfl (Ev.mvI rfl) ?_
    refine OPS.val rfl rfl rfl ((by exact Ev.indexAddr1 (el_run rfl) (size_run rfl) rfl rfl rfl (by omega))) ?_
    refine OPS.val rfl rfl rfl (Ev.load1 (agg_run rfl) rfl (by exact H.ld0 (by assumption))) ?_
    refine OPS.call (d := some 16) rfl rfl rfl (EvC.clos rfl (fun_run (by assumption))) (hf l[j] (List.getElem_mem hlt) w H.below) ?_
    rintro _ w ⟨rfl, hb⟩
    refine ⟨_, rfl, ?_⟩
    replace H := H.toBelow hb; clear hb
    refine OPS.nil ?_
    refine WP.cond rfl (fun hc4 => ?_) (fun hc4 => ?_)
    · refine WP.seq ?_
      refine WP.region ?_
      refine OPS.val rfl rfl rfl (Ev.mvI rfl) ?_
      refine OPS.val rfl rfl rfl (Ev.asI rfl) ?_
      refine OPS.nil ?_
      refine WP.ret ⟨_, rfl, ?_⟩
      exact ⟨j, rfl, ⟨fun _ => List.any_eq_true.2 ⟨l[j], List.getElem_mem hlt, hc4⟩, fun _ => by omega⟩, H.below⟩
    refine WP.skip ?_
    refine WP.region ?_
    refine OPS.val rfl rfl rfl (Ev.add rfl rfl (by unfold fits; omega)) ?_
    refine OPS.val rfl rfl rfl (Ev.mvI rfl) ?_
    refine OPS.nil ?_
    refine ⟨(by repeat (first | exact Agree.refl _ _ | exact Agree.mix _ _ _ | refine Agree.upd rfl ?_ | refine Agree.mix2 rfl ?_)), k - 1, by omega, j + 1, by omega, rfl, H, fun i hi hij => ?_⟩
    rcases Nat.lt_succ_iff_lt_or_eq.1 hij with h | rfl
    · exact hall i hi h
    · exact hc4
  refine WP.exit ?_
  refine XB.hit ?_
  refine WP.seq ?_
  refine WP.region ?_
  refine OPS.val rfl rfl rfl (Ev.asI rfl) ?_
  refine OPS.nil ?_
  refine WP.ret ⟨_, rfl, ?_⟩
  refine ⟨-1, rfl, ⟨fun h => absurd h (by omega), fun h => ?_⟩, H.below⟩
  obtain ⟨x, hx, he⟩ := List.any_eq_true.1 h
  obtain ⟨i, hi, rfl⟩ := List.mem_iff_getElem.1 hx
  rw [hall i hi (by simp at hc2; omega)] at he; cases he
theorem slContainsFuncI (A : Option Addr) (l : List Int) (cap : Nat) (f : Nat) (caps : List Value) (p : Int → Bool) (w0 : World) (hz : IntsAt w0 A l) (hl : l.length ≤ maxLen) (hfun : funT f = true)
    (hf : ∀ x ∈ l, ∀ w, Below w0.heap.size w0 w → Calls Try.prog f ([(I x : Value)] ++ caps).toArray w fun e w' => e = .returned (.bool (p x)) ∧ Below w.heap.size w w') :
    Calls Try.prog 36 #[.slice A l.length cap, .func (.func f) #[] caps.toArray] w0 fun e w' => e = .returned (.bool (l.any p)) ∧ Below w0.heap.size w0 w' := by
  have H := SH.refl w0
  refine Calls.ofWP Try.func36 rfl Try.results36 Try.ntmps36 rfl ?_
  refine WP.seq ?_
  refine WP.region ?_
  refine OPS.val rfl rfl rfl (Ev.asB rfl) ?_
  refine OPS.nil ?_
  refine WP.seq ?_
  refine WP.region ?_
  refine OPS.val rfl rfl rfl (Ev.mvS rfl) ?_
  refine OPS.val rfl rfl rfl (Ev.mvF rfl) ?_
  refine OPS.call (d := some 7) rfl rfl rfl (EvC.func (fun_run rfl)) (slIndexFuncI A l cap f caps p w0 hz hl hfun hf) ?_
  rintro _ w ⟨r, rfl, hr, hb⟩
  refine ⟨_, rfl, ?_⟩
  replace H := H.toBelow hb; clear hb
  refine OPS.val rfl rfl rfl (Ev.geq rfl rfl) ?_
  refine OPS.val rfl rfl rfl (Ev.asB rfl) ?_
  refine OPS.nil ?_
  refine WP.ret ⟨_, rfl, ?_⟩
  have : l.any p = decide (0 ≤ r) := by
    cases h : l.any p with
    | true => exact (decide_eq_true (hr.2 h)).symm
    | false => exact (decide_eq_false fun q => by rw [hr.1 q] at h; cases h).symm
  exact ⟨by rw [this]; rfl, H.below⟩

theorem cmpNaN (n : Int) (w0 : World) : Calls Try.prog 67 #[I n] w0 fun e w' => e = .returned (.bool false) ∧ Below w0.heap.size w0 w' := by
  have H := SH.refl w0
  refine Calls.ofWP Try.func67 rfl Try.results67 Try.ntmps67 rfl ?_
  refine WP.seq ?_
  refine WP.region ?_
  refine OPS.val rfl rfl rfl (Ev.asB rfl) ?_
  refine OPS.nil ?_
  refine WP.seq ?_
  refine WP.region ?_
  refine OPS.val rfl rfl rfl (Ev.mvI rfl) ?_
  refine OPS.val rfl rfl rfl (Ev.mvI rfl) ?_
  refine OPS.val rfl rfl rfl (Ev.neq rfl rfl) ?_
  refine OPS.val rfl rfl rfl (Ev.asB rfl) ?_
  refine OPS.nil ?_
  refine WP.ret ⟨_, rfl, ?_⟩
  exact ⟨congrArg (fun b => Ending.returned (Bo b)) (show (!decide (n = n)) = false by simp), H.below⟩
theorem cmpLess (a b : Int) (w0 : World) : Calls Try.prog 84 #[I a, I b] w0 fun e w' => e = .returned (.bool (decide (a < b))) ∧ Below w0.heap.size w0 w' := by
  have H := SH.refl w0
  refine Calls.ofWP Try.func84 rfl Try.results84 Try.ntmps84 rfl ?_
  refine WP.seq ?_
  refine WP.region ?_
  refine OPS.val rfl rfl rfl (Ev.asB rfl) ?_
  refine OPS.nil ?_
  refine WP.seq ?_
  refine WP.region ?_
  refine OPS.val rfl rfl rfl (Ev.mvI rfl) ?_
  refine OPS.call (d := some 6) rfl rfl rfl (EvC.func (fun_run rfl)) (cmpNaN a w0) ?_
  rintro _ w ⟨rfl, hb⟩
  refine ⟨_, rfl, ?_⟩
  replace H := H.toBelow hb; clear hb
  refine OPS.val rfl rfl rfl (Ev.mvB rfl) ?_
  refine OPS.gval rfl rfl rfl rfl rfl (fun hg => Ev.mvI (by rfl)) ?_
  refine OPS.gcall0 (f := 67) (cmpNaN b w) (fun _ _ h => h) rfl rfl rfl rfl rfl (fun hg => EvC.conv (EvC.func (fun_run rfl)) (l1 (by exact gvE hg rfl))) ?_
  intro w hbc; replace H := H.toBelow hbc
  refine OPS.gval rfl rfl rfl rfl rfl (fun hg => Ev.not (by exact gvE hg rfl)) ?_
  refine OPS.val rfl rfl rfl ((by exact Ev.pickAnd rfl rfl rfl)) ?_
  refine OPS.val rfl rfl rfl (Ev.mvB rfl) ?_
  refine OPS.gval rfl rfl rfl rfl rfl (fun hg => Ev.mvI (by rfl)) ?_
  refine OPS.gval rfl rfl rfl rfl rfl (fun hg => Ev.mvI (by rfl)) ?_
  refine OPS.gval rfl rfl rfl rfl rfl (fun hg => Ev.lss (by exact gvE hg rfl) (by exact gvE hg rfl)) ?_
  refine OPS.val rfl rfl rfl ((by exact Ev.pickOr rfl rfl rfl)) ?_
  refine OPS.val rfl rfl rfl (Ev.asB rfl) ?_
  refine OPS.nil ?_
  refine WP.ret ⟨_, rfl, ?_⟩
  exact ⟨congrArg (fun b => Ending.returned (Bo b)) (show _ = decide (a < b) by simp), H.below⟩
def sortedB (l : List Int) : Bool := (List.range (l.length - 1)).all fun i => decide (l.getD i 0 ≤ l.getD (i + 1) 0)
end Go.Proofs.Ytfddebpeiilohaa
