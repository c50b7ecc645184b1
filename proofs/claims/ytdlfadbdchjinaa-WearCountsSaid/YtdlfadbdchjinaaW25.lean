/-
  Plain: adjacent windows; the moments at which the wear grows.
-/
import Derived.Test.YtdlfadbdchjinaaW24
set_option linter.all false
namespace Go.Proofs.Ytdlfadbdchjinaa
open Go Go.W Go.RowKit

theorem inB_split {bike f m t : Int} (h1 : f ≤ m) (h2 : m ≤ t) (x : Leg) : (inB bike f t x = true ∧ ((inB bike f m x = true ∧ inB bike m t x = false) ∨ (inB bike f m x = false ∧ inB bike m t x = true))) ∨ (inB bike f t x = false ∧ inB bike f m x = false ∧ inB bike m t x = false) := by unfold inB; grind
theorem cntL_add {bike f m t : Int} (h1 : f ≤ m) (h2 : m ≤ t) : ∀ l : List Leg, cntL bike f t l = cntL bike f m l + cntL bike m t l
  | [] => rfl
  | x :: l => by
    rw [cntL, cntL, cntL, cntL_add h1 h2 l]
    rcases inB_split (bike := bike) h1 h2 x with ⟨h, ⟨h3, h4⟩ | ⟨h3, h4⟩⟩ | ⟨h, h3, h4⟩ <;> rw [h, h3, h4] <;> simp <;> omega
theorem secL_add {bike f m t : Int} {o : Bool} (h1 : f ≤ m) (h2 : m ≤ t) : ∀ l : List Leg, secL bike f t o l = secL bike f m o l + secL bike m t o l
  | [] => rfl
  | x :: l => by
    rw [secL, secL, secL, secL_add h1 h2 l]
    rcases inB_split (bike := bike) h1 h2 x with ⟨h, ⟨h3, h4⟩ | ⟨h3, h4⟩⟩ | ⟨h, h3, h4⟩ <;> rw [h, h3, h4] <;> cases (!(o && l.isEmpty)) <;> simp <;> omega
theorem cntR_add {bike f m t : Int} (h1 : f ≤ m) (h2 : m ≤ t) : ∀ R : List Ride, cntR bike f t R = cntR bike f m R + cntR bike m t R ∧ secR bike f t R = secR bike f m R + secR bike m t R
  | [] => ⟨rfl, rfl⟩
  | r :: R => by
    have ih := cntR_add (bike := bike) h1 h2 R
    have a := cntL_add (bike := bike) h1 h2 r.L.l
    have b := secL_add (bike := bike) (o := r.opn) h1 h2 r.L.l
    simp only [cntR, secR]; omega
theorem firstErr_ne {R : List Ride} : firstErr R ≠ 10 := by
  induction R with
  | nil => simp [firstErr]
  | cons r R ih =>
    rw [firstErr]; split
    · unfold rideErr; repeat' split
      all_goals decide
    · exact ih
theorem ofErr_ne {hs rs : List Int} {R : List Ride} {bike kind f t : Int} : ofErr hs rs R bike kind f t ≠ 10 := by
  unfold ofErr wearErr askErr
  have := firstErr_ne (R := R)
  repeat' split
  all_goals first | decide | exact this
theorem ofErr_win {hs rs : List Int} {R : List Ride} {bike kind f t f' t' : Int} (h : ofErr hs rs R bike kind f t = 0) (h1 : 0 ≤ f') (h2 : f' ≤ t') (h3 : t' ≤ 4294944000) : ofErr hs rs R bike kind f' t' = 0 := by
  obtain ⟨b1, ⟨k, rfl, hk⟩, b3⟩ := of_ok h
  rw [ofErr, if_neg (by rw [b1]; simp), if_neg (by omega)]
  rw [askErr] at b3
  split at b3
  · cases b3
  · rename_i a1
    have a1 : askB bike f t = true := by simpa using a1
    rw [askErr, if_neg, b3]
    unfold askB at a1 ⊢
    simp at a1 ⊢; omega
theorem ofErr_b {hs rs : List Int} {R : List Ride} {bike kind f t : Int} (h : ofErr hs rs R bike kind f t = 0) : 0 ≤ f ∧ f ≤ t ∧ t ≤ 4294944000 := (ask_ok (of_ok h).2.2).1.2
theorem wAt_eq {hs rs : List Int} {R : List Ride} {bike kind f t : Int} (h : ofErr hs rs R bike kind f t = 0) : ofVal hs rs R bike kind f t = wAt hs rs R bike kind f t := by rw [ofVal, if_pos h]; rfl
theorem of0 {hs rs : List Int} {R : List Ride} {bike kind f t : Int} (h : ofErr hs rs R bike kind f t ≠ 0) : ofVal hs rs R bike kind f t = 0 := by rw [ofVal, if_neg h]
/-- what is known when the question is right -/
theorem wv {hs rs : List Int} {R : List Ride} {bike kind f t : Int} (h : ofErr hs rs R bike kind f t = 0) (hsm : R.length ≤ 256 → R.length ≤ 21 ∧ ∀ r ∈ R, r.L.l.length ≤ 40) : (0 ≤ hs.getD kind.toNat 0 ∧ hs.getD kind.toNat 0 ≤ 1000000) ∧ (0 ≤ rs.getD kind.toNat 0 ∧ rs.getD kind.toNat 0 ≤ 1000000) ∧ (0 ≤ secR bike f t R ∧ secR bike f t R ≤ 4000000000000) ∧ 0 ≤ cntR bike f t R ∧ cntR bike f t R ≤ 1000 := by
  obtain ⟨b1, ⟨k, rfl, hk⟩, b3⟩ := of_ok h
  obtain ⟨k1, k2, k3, k4, k5⟩ := wear_ok b1
  obtain ⟨_, a2, a3⟩ := ask_ok b3
  have hsb := sec_small (bike := bike) (f := f) (t := t) a3 (hsm a2).2 (hsm a2).1
  rw [Int.toNat_natCast, getDk hk, getDk (show k < rs.length by omega)]
  have := k4 k hk
  have := k5 k (by omega)
  omega
theorem wornV_sm {h r n s : Int} (hh : 0 ≤ h ∧ h ≤ 1000000) (hr : 0 ≤ r ∧ r ≤ 1000000) (hn : 0 ≤ n ∧ n ≤ 1000) (hs : 0 ≤ s ∧ s ≤ 4000000000000) : 0 ≤ wornV h r n s ∧ wornV h r n s ≤ 2000000000000000 := by
  refine ⟨wornV_nn hh.1 hr.1 hn.1 hs.1, ?_⟩
  unfold wornV
  have h1 := (mulB hr hn).2
  have h2 := (mulB hh hs).2
  generalize r * n = a at *
  generalize h * s = b at *
  omega
theorem of_bd {hs rs : List Int} {R : List Ride} {bike kind f t : Int} (hsm : R.length ≤ 256 → R.length ≤ 21 ∧ ∀ r ∈ R, r.L.l.length ≤ 40) : 0 ≤ ofVal hs rs R bike kind f t ∧ ofVal hs rs R bike kind f t ≤ 2000000000000000 := by
  by_cases h : ofErr hs rs R bike kind f t = 0
  · obtain ⟨a, b, c, d⟩ := wv h hsm
    rw [ofVal, if_pos h]; exact wornV_sm a b d c
  · rw [of0 h]; omega
theorem wornV_add (h r a b c d : Int) : wornV h r a c + wornV h r b d ≤ wornV h r (a + b) (c + d) ∧ wornV h r (a + b) (c + d) ≤ wornV h r a c + wornV h r b d + 1 := by
  unfold wornV
  rw [Int.mul_add, Int.mul_add]
  generalize r * a = r1
  generalize r * b = r2
  generalize h * c = h1
  generalize h * d = h2
  omega
theorem adds {hs rs : List Int} {R : List Ride} {bike kind a b c : Int} (h1 : ofErr hs rs R bike kind a b = 0) (h2 : ofErr hs rs R bike kind b c = 0) : ofErr hs rs R bike kind a c = 0 ∧ ofVal hs rs R bike kind a b + ofVal hs rs R bike kind b c ≤ ofVal hs rs R bike kind a c ∧ ofVal hs rs R bike kind a c ≤ ofVal hs rs R bike kind a b + ofVal hs rs R bike kind b c + 1 := by
  have e1 := ofErr_b h1
  have e2 := ofErr_b h2
  have h3 := ofErr_win h1 (f' := a) (t' := c) (by omega) (by omega) (by omega)
  have ha := cntR_add (bike := bike) e1.2.1 e2.2.1 R
  rw [wAt_eq h1, wAt_eq h2, wAt_eq h3, wAt, wAt, wAt, ha.1, ha.2]
  exact ⟨h3, wornV_add _ _ _ _ _ _⟩
/-! ### the moments -/
theorem max_le {t : Int} : ∀ {l : List Int}, (∃ x ∈ l, x ≤ t) → ∃ m ∈ l, m ≤ t ∧ ∀ x ∈ l, x ≤ t → x ≤ m
  | [], ⟨x, hx, _⟩ => by cases hx
  | a :: l, h => by
    by_cases hl : ∃ x ∈ l, x ≤ t
    · obtain ⟨m, hm, hmt, hmx⟩ := max_le hl
      by_cases ha : a ≤ t ∧ m < a
      · refine ⟨a, List.mem_cons_self, ha.1, fun x hx hxt => ?_⟩
        rcases List.mem_cons.1 hx with rfl | hx
        · exact Int.le_refl _
        · have := hmx x hx hxt; omega
      · refine ⟨m, List.mem_cons_of_mem _ hm, hmt, fun x hx hxt => ?_⟩
        rcases List.mem_cons.1 hx with rfl | hx
        · omega
        · exact hmx x hx hxt
    · obtain ⟨x, hx, hxt⟩ := h
      have hn : ∀ y ∈ l, ¬ y ≤ t := fun y hy hyt => hl ⟨y, hy, hyt⟩
      rcases List.mem_cons.1 hx with rfl | hx
      · refine ⟨x, List.mem_cons_self, hxt, fun y hy hyt => ?_⟩
        rcases List.mem_cons.1 hy with rfl | hy
        · exact Int.le_refl _
        · exact absurd hyt (hn y hy)
      · exact absurd hxt (hn x hx)
theorem cntL_congr {bike f t bike' f' t' : Int} {o : Bool} : ∀ {l : List Leg}, (∀ x ∈ l, inB bike f t x = inB bike' f' t' x) → cntL bike f t l = cntL bike' f' t' l ∧ secL bike f t o l = secL bike' f' t' o l
  | [], _ => ⟨rfl, rfl⟩
  | x :: l, h => by
    have ih := cntL_congr (o := o) fun y hy => h y (List.mem_cons_of_mem _ hy)
    rw [cntL, cntL, secL, secL, ih.1, ih.2, h x List.mem_cons_self]
    exact ⟨rfl, rfl⟩
theorem cntR_congr {bike f t bike' f' t' : Int} : ∀ {R : List Ride}, (∀ r ∈ R, ∀ x ∈ r.L.l, inB bike f t x = inB bike' f' t' x) → cntR bike f t R = cntR bike' f' t' R ∧ secR bike f t R = secR bike' f' t' R
  | [], _ => ⟨rfl, rfl⟩
  | r :: R, h => by
    have ih := cntR_congr fun y hy => h y (List.mem_cons_of_mem _ hy)
    have h2 := cntL_congr (o := r.opn) (h r List.mem_cons_self)
    rw [cntR, cntR, secR, secR, ih.1, ih.2, h2.1, h2.2]
    exact ⟨rfl, rfl⟩
theorem mem_timesR {bike f : Int} {R : List Ride} {r : Ride} {x : Leg} (hr : r ∈ R) (hx : x ∈ r.L.l) (h1 : x.bike = bike) (h2 : f ≤ x.fl) : x.fl + 1 ∈ timesR bike f R :=
  List.mem_flatMap.2 ⟨r, hr, List.mem_map.2 ⟨x, List.mem_filter.2 ⟨hx, by simp [h1, h2]⟩, rfl⟩⟩
theorem ats_at {bike f t : Int} {R : List Ride} (h : f ≤ t) : ∃ t0 ∈ atsL bike f R, t0 ≤ t ∧ cntR bike f t0 R = cntR bike f t R ∧ secR bike f t0 R = secR bike f t R := by
  obtain ⟨m, hm, hmt, hmx⟩ := max_le (t := t) (l := atsL bike f R) ⟨f, List.mem_cons_self, h⟩
  refine ⟨m, hm, hmt, cntR_congr fun r hr x hx => ?_⟩
  have key : x.bike = bike → f ≤ x.fl → x.fl < t → x.fl < m := fun h1 h2 h3 => by
    have := hmx (x.fl + 1) (List.mem_cons_of_mem _ (mem_timesR hr hx h1 h2)) (by omega)
    omega
  unfold inB; grind
theorem ats_b {bike f : Int} {R : List Ride} (hk : ∀ r ∈ R, RideOk r) (hf : f ≤ 4294944000) {x : Int} (h : x ∈ atsL bike f R) : f ≤ x ∧ x ≤ 4294944000 := by
  rcases List.mem_cons.1 h with rfl | h
  · omega
  · refine ⟨by have := timesR_gt h; omega, ?_⟩
    obtain ⟨r, hr, h⟩ := List.mem_flatMap.1 h
    obtain ⟨y, hy, rfl⟩ := List.mem_map.1 h
    have := (hk r hr).rng y (List.mem_filter.1 hy).1
    omega
theorem reach_ok {hs rs : List Int} {R : List Ride} {bike kind f lim : Int} (h : reachErr hs rs R bike kind f lim = 0) : ofErr hs rs R bike kind f 4294944000 = 0 ∧ 0 ≤ lim ∧ reachO hs rs R bike kind f lim = some (reachVal hs rs R bike kind f lim) := by
  have h0 := h
  unfold reachErr at h
  split at h
  · rename_i h1; exact absurd h h1
  · rename_i h1
    split at h
    · cases h
    · rename_i h2
      split at h
      · rename_i h3
        refine ⟨Classical.not_not.1 h1, by omega, ?_⟩
        rw [reachVal, if_pos h0]
        cases ho : reachO hs rs R bike kind f lim with
        | none => rw [ho] at h3; cases h3
        | some m => rfl
      · cases h
theorem reached_none {hs rs : List Int} {R : List Ride} {bike kind f lim : Int} (h : reachErr hs rs R bike kind f lim = 10) : ofErr hs rs R bike kind f 4294944000 = 0 ∧ ofVal hs rs R bike kind f 4294944000 < lim := by
  unfold reachErr at h
  split at h
  · exact absurd h ofErr_ne
  · rename_i h1
    have h1 := Classical.not_not.1 h1
    split at h
    · cases h
    · split at h
      · cases h
      · rename_i h3
        have ho : reachO hs rs R bike kind f lim = none := by simpa using h3
        refine ⟨h1, ?_⟩
        have hb := ofErr_b h1
        obtain ⟨t0, ht0, _, e1, e2⟩ := ats_at (bike := bike) (R := R) hb.2.1
        have := (find_min (P := fun t => decide (lim ≤ wAt hs rs R bike kind f t)) (srt_sorted (atsL bike f R))).2 ho t0 (srt_mem.2 ht0)
        rw [wAt_eq h1, wAt, ← e1, ← e2]
        have := of_decide_eq_false this
        unfold wAt at this; omega
theorem reached_some {hs rs : List Int} {R : List Ride} {bike kind f lim m : Int} (h : reachErr hs rs R bike kind f lim = 0) (hm : m = reachVal hs rs R bike kind f lim) : ofErr hs rs R bike kind f m = 0 ∧ f ≤ m ∧ m ≤ 4294944000 ∧ lim ≤ ofVal hs rs R bike kind f m ∧ (m = f → lim = 0) ∧ (m ≠ f → ofErr hs rs R bike kind f (m - 1) = 0 ∧ ofVal hs rs R bike kind f (m - 1) < lim) := by
  obtain ⟨h1, h2, h3⟩ := reach_ok h
  rw [← hm] at h3
  have hb := ofErr_b h1
  have hmin := (find_min (P := fun t => decide (lim ≤ wAt hs rs R bike kind f t)) (srt_sorted (atsL bike f R))).1 m h3
  have hmb := ats_b (ask_ok (of_ok h1).2.2).2.2 (by omega) (srt_mem.1 hmin.mem)
  have hok := ofErr_win h1 (f' := f) (t' := m) (by omega) hmb.1 hmb.2
  have hlim : lim ≤ wAt hs rs R bike kind f m := by simpa using hmin.ok
  refine ⟨hok, hmb.1, hmb.2, by rw [wAt_eq hok]; exact hlim, fun e => ?_, fun e => ?_⟩
  · subst e; rw [wAt_from] at hlim; omega
  · have hok2 := ofErr_win h1 (f' := f) (t' := m - 1) (by omega) (by omega) (by omega)
    refine ⟨hok2, ?_⟩
    obtain ⟨t0, ht0, ht1, e1, e2⟩ := ats_at (bike := bike) (R := R) (show f ≤ m - 1 by omega)
    have := hmin.le t0 (srt_mem.2 ht0)
    rw [wAt_eq hok2, wAt, ← e1, ← e2]
    have h4 : ¬ lim ≤ wAt hs rs R bike kind f t0 := fun h5 => by
      have := this (by simpa using h5)
      omega
    unfold wAt at h4; omega
end Go.Proofs.Ytdlfadbdchjinaa
