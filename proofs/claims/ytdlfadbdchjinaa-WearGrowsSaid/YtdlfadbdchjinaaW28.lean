/-
  Plain: greater windows, further rides, another order.
-/
import Derived.Test.YtdlfadbdchjinaaW27
set_option linter.all false
namespace Go.Proofs.Ytdlfadbdchjinaa
open Go Go.W Go.RowKit

theorem cntR_app {bike f t : Int} : ∀ R R' : List Ride, cntR bike f t (R ++ R') = cntR bike f t R + cntR bike f t R' ∧ secR bike f t (R ++ R') = secR bike f t R + secR bike f t R'
  | [], R' => by simp [cntR, secR]
  | r :: R, R' => by
    have ih := cntR_app (bike := bike) (f := f) (t := t) R R'
    simp only [List.cons_append, cntR, secR]; omega
theorem cntR_rev {bike f t : Int} : ∀ R : List Ride, cntR bike f t R.reverse = cntR bike f t R ∧ secR bike f t R.reverse = secR bike f t R
  | [] => ⟨rfl, rfl⟩
  | r :: R => by
    have ih := cntR_rev (bike := bike) (f := f) (t := t) R
    have ha := cntR_app (bike := bike) (f := f) (t := t) R.reverse [r]
    simp only [List.reverse_cons, cntR, secR] at ha ⊢; omega
theorem firstErr_of : ∀ {R : List Ride}, (∀ r ∈ R, rideErr r = 0) → firstErr R = 0
  | [], _ => rfl
  | r :: R, h => by
    rw [firstErr, if_neg (by rw [h r List.mem_cons_self]; simp), firstErr_of fun x hx => h x (List.mem_cons_of_mem _ hx)]
theorem wornV_mono {h r n s n' s' : Int} (hh : 0 ≤ h) (hr : 0 ≤ r) (hn : n ≤ n') (hs : s ≤ s') : wornV h r n s ≤ wornV h r n' s' := by
  unfold wornV
  have h1 := Int.mul_le_mul_of_nonneg_left hn hr
  have h2 := Int.ediv_le_ediv (show (0 : Int) < 3600 by omega) (Int.mul_le_mul_of_nonneg_left hs hh)
  omega
theorem grow_wide {hs rs : List Int} {R : List Ride} {bike kind f t : Int} (h : ofErr hs rs R bike kind f t = 0) : ofErr hs rs R bike kind 0 4294944000 = 0 ∧ ofVal hs rs R bike kind f t ≤ ofVal hs rs R bike kind 0 4294944000 := by
  have hb := ofErr_b h
  have h2 := ofErr_win h (f' := 0) (t' := 4294944000) (by omega) (by omega) (by omega)
  refine ⟨h2, ?_⟩
  obtain ⟨b1, ⟨k, rfl, hk⟩, b3⟩ := of_ok h
  obtain ⟨k1, k2, k3, k4, k5⟩ := wear_ok b1
  obtain ⟨_, a2, a3⟩ := ask_ok b3
  have e1 := cntR_add (bike := bike) (show 0 ≤ f by omega) (show f ≤ 4294944000 by omega) R
  have e2 := cntR_add (bike := bike) (show f ≤ t by omega) (show t ≤ 4294944000 by omega) R
  have g1 := sec_any (bike := bike) (f := 0) (t := f) a3 a2
  have g2 := sec_any (bike := bike) (f := t) (t := 4294944000) a3 a2
  rw [wAt_eq h, wAt_eq h2, wAt, wAt, Int.toNat_natCast, getDk hk, getDk (show k < rs.length by omega)]
  exact wornV_mono (k4 k hk).1 (k5 k (by omega)).1 (by omega) (by omega)
theorem grow_back {hs rs : List Int} {R : List Ride} {bike kind f t : Int} (h : ofErr hs rs R bike kind f t = 0) : ofErr hs rs R.reverse bike kind f t = 0 ∧ ofVal hs rs R.reverse bike kind f t = ofVal hs rs R bike kind f t := by
  have h2 : ofErr hs rs R.reverse bike kind f t = 0 := by
    obtain ⟨b1, ⟨k, rfl, hk⟩, b3⟩ := of_ok h
    rw [ofErr, if_neg (by rw [b1]; simp), if_neg (by omega)]
    unfold askErr at b3 ⊢
    split at b3
    · cases b3
    · rename_i q1
      split at b3
      · cases b3
      · rename_i q2
        rw [if_neg q1, if_neg (by rw [List.length_reverse]; exact q2)]
        exact firstErr_of fun r hr => firstErr_all b3 r (List.mem_reverse.1 hr)
  have e := cntR_rev (bike := bike) (f := f) (t := t) R
  exact ⟨h2, by rw [wAt_eq h, wAt_eq h2, wAt, wAt, e.1, e.2]⟩
theorem grow_with {hs rs : List Int} {R : List Ride} {more : Ride} {bike kind f t : Int} (h : ofErr hs rs R bike kind f t = 0) (h2 : ofErr hs rs (R ++ [more]) bike kind f t = 0) : ofVal hs rs R bike kind f t ≤ ofVal hs rs (R ++ [more]) bike kind f t ∧ ((∀ x ∈ more.L.l, x.bike ≠ bike) → ofVal hs rs (R ++ [more]) bike kind f t = ofVal hs rs R bike kind f t) := by
  obtain ⟨b1, ⟨k, rfl, hk⟩, b3⟩ := of_ok h2
  obtain ⟨k1, k2, k3, k4, k5⟩ := wear_ok b1
  obtain ⟨_, a2, a3⟩ := ask_ok b3
  have e := cntR_app (bike := bike) (f := f) (t := t) R [more]
  have hm := secR_bd (bike := bike) (f := f) (t := t) (K := 512) (R := [more]) fun r hr => ⟨a3 r (List.mem_append_right _ hr), (a3 r (List.mem_append_right _ hr)).ll⟩
  rw [wAt_eq h, wAt_eq h2, wAt, wAt, e.1, e.2, Int.toNat_natCast, getDk hk, getDk (show k < rs.length by omega)]
  refine ⟨wornV_mono (k4 k hk).1 (k5 k (by omega)).1 (by omega) (by omega), fun ho => ?_⟩
  have hz : ∀ l : List Leg, (∀ x ∈ l, x.bike ≠ bike) → cntL bike f t l = 0 ∧ secL bike f t more.opn l = 0 := fun l hl => by
    induction l with
    | nil => exact ⟨rfl, rfl⟩
    | cons x l ih =>
      have ih := ih fun y hy => hl y (List.mem_cons_of_mem _ hy)
      have hi : inB bike f t x = false := by have := hl x List.mem_cons_self; unfold inB; simp [this]
      rw [cntL, secL, ih.1, ih.2, hi]; simp
  have := hz _ ho
  simp only [cntR, secR, this.1, this.2, Int.add_zero]
def otherB (bike : Int) (l : List Leg) : Bool := l.all fun x => !decide (x.bike = bike)
theorem otherB_ok {bike : Int} {l : List Leg} (h : otherB bike l = true) : ∀ x ∈ l, x.bike ≠ bike := fun x hx => by
  have := List.all_eq_true.1 h x hx
  simpa using this
theorem otherB_take {bike : Int} {l : List Leg} {j : Nat} (h : j < l.length) : otherB bike (l.take (j + 1)) = (otherB bike (l.take j) && !decide (l[j].bike = bike)) := by
  unfold otherB
  rw [List.take_succ_eq_append_getElem h, List.all_append]; simp
theorem rideCells_len (r : Ride) : (rideCells r).length = 13 := rfl
end Go.Proofs.Ytdlfadbdchjinaa
