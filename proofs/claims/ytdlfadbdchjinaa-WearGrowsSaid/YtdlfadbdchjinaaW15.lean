/-
  Walks: the wear in a window.
-/
import Derived.Test.YtdlfadbdchjinaaW14
set_option linter.all false
namespace Go.Proofs.Ytdlfadbdchjinaa
open Go Go.W Go.RowKit

theorem wear_ok {hs rs : List Int} (h : wearErr hs rs = 0) : hs.length = rs.length ∧ 1 ≤ hs.length ∧ hs.length ≤ 8 ∧ (∀ k (h : k < hs.length), 0 ≤ hs[k] ∧ hs[k] ≤ 1000000) ∧ ∀ k (h : k < rs.length), 0 ≤ rs[k] ∧ rs[k] ≤ 1000000 := by
  unfold wearErr at h
  split at h
  · cases h
  · rename_i h1
    split at h
    · rename_i h2
      have h1 : formB hs rs = true := by simpa using h1
      unfold formB at h1
      simp only [Bool.and_eq_true, decide_eq_true_eq] at h1
      have h3 := List.all_eq_true.1 h2
      refine ⟨h1.1.1, h1.1.2, h1.2, fun k hk => ?_, fun k hk => ?_⟩
      · have := h3 hs[k] (List.mem_append_left _ (List.getElem_mem hk))
        unfold okN at this; simpa using this
      · have := h3 rs[k] (List.mem_append_right _ (List.getElem_mem hk))
        unfold okN at this; simpa using this
    · cases h
theorem ask_ok {R : List Ride} {bike f t : Int} (h : askErr R bike f t = 0) : ((0 ≤ bike ∧ bike < 128) ∧ 0 ≤ f ∧ f ≤ t ∧ t ≤ 4294944000) ∧ R.length ≤ 256 ∧ ∀ r ∈ R, RideOk r := by
  unfold askErr at h
  split at h
  · cases h
  · rename_i h1
    split at h
    · cases h
    · rename_i h2
      have h1 : askB bike f t = true := by simpa using h1
      unfold askB at h1
      simp at h1
      exact ⟨by omega, by omega, fun r hr => rideOk_of (firstErr_all h r hr)⟩
def ofErr (hs rs : List Int) (R : List Ride) (bike kind f t : Int) : Int := if wearErr hs rs ≠ 0 then wearErr hs rs else if kind < 0 ∨ (hs.length : Int) ≤ kind then 7 else askErr R bike f t
def ofVal (hs rs : List Int) (R : List Ride) (bike kind f t : Int) : Int := if ofErr hs rs R bike kind f t = 0 then wornV (hs.getD kind.toNat 0) (rs.getD kind.toNat 0) (cntR bike f t R) (secR bike f t R) else 0
theorem wearUse2 (A : Option Addr) (rs : List Ride) (cap : Nat) (bike f t : Int) (w0 : World) (hR : RidesAt w0 A rs) (hl : rs.length ≤ 256) (hk : ∀ r ∈ rs, RideOk r) :
    Calls Try.prog 26 #[.slice A rs.length cap, I bike, .agg #[I f, I t]] w0 fun e w' => e = .returned (.agg #[I (cntR bike f t rs), I (secR bike f t rs)]) ∧ Below w0.heap.size w0 w' :=
  (wearUse A rs cap bike f t w0 hR hl hk).mono fun _ _ h => ⟨h.1, h.2.2.2⟩
theorem secL_bd {bike f t : Int} {opn : Bool} : ∀ {l : List Leg}, (∀ x ∈ l, (0 ≤ x.fl ∧ x.fl ≤ 4294943999) ∧ 0 ≤ x.tl ∧ x.tl ≤ 4294943999) → (∀ j (h : j < l.length), (opn = true ∧ j + 1 = l.length) ∨ l[j].fl ≤ l[j].tl) → (0 ≤ secL bike f t opn l ∧ secL bike f t opn l ≤ 4294943999 * (l.length : Int)) ∧ (0 ≤ cntL bike f t l ∧ cntL bike f t l ≤ l.length)
  | [], _, _ => by simp [secL, cntL]
  | x :: l, h1, h2 => by
    have ih := secL_bd (bike := bike) (f := f) (t := t) (opn := opn) (fun y hy => h1 y (List.mem_cons_of_mem _ hy)) (fun j hj => by have := h2 (j + 1) (by simpa using hj); simpa using this)
    have hx := h1 x (by simp)
    have ho := h2 0 (by simp)
    simp only [List.getElem_cons_zero, List.length_cons] at ho
    rw [secL, cntL]
    simp only [List.length_cons]
    by_cases hc : (inB bike f t x && !(opn && l.isEmpty)) = true
    · rw [if_pos hc]
      have hle : x.fl ≤ x.tl := by
        rcases ho with ⟨a, b⟩ | h
        · exfalso
          have : l = [] := List.length_eq_zero_iff.1 (by omega)
          subst this
          simp [a] at hc
        · exact h
      split <;> omega
    · rw [if_neg hc]
      split <;> omega
theorem secR_bd {bike f t : Int} {K : Nat} : ∀ {R : List Ride}, (∀ r ∈ R, RideOk r ∧ r.L.l.length ≤ K) → (0 ≤ secR bike f t R ∧ secR bike f t R ≤ 4294943999 * ((K : Int) * (R.length : Int))) ∧ (0 ≤ cntR bike f t R ∧ cntR bike f t R ≤ (K : Int) * (R.length : Int))
  | [], _ => by simp [secR, cntR]
  | r :: R, h => by
    have ih := secR_bd (bike := bike) (f := f) (t := t) (K := K) fun y hy => h y (List.mem_cons_of_mem _ hy)
    have hr := h r (by simp)
    have hb := secL_bd (bike := bike) (f := f) (t := t) hr.1.rng hr.1.ord
    rw [secR, cntR]
    simp only [List.length_cons]
    have e : (K : Int) * ((R.length + 1 : Nat) : Int) = (K : Int) * (R.length : Int) + K := by rw [Int.natCast_add, Int.mul_add]; simp
    rw [e]
    generalize (K : Int) * (R.length : Int) = q at *
    omega
theorem sec_small {bike f t : Int} {R : List Ride} (h : ∀ r ∈ R, RideOk r) (hs : ∀ r ∈ R, r.L.l.length ≤ 40) (hn : R.length ≤ 21) : (0 ≤ secR bike f t R ∧ secR bike f t R ≤ 4000000000000) ∧ (0 ≤ cntR bike f t R ∧ cntR bike f t R ≤ 840) := by
  have := secR_bd (bike := bike) (f := f) (t := t) (K := 40) fun r hr => ⟨h r hr, hs r hr⟩
  omega
theorem sec_any {bike f t : Int} {R : List Ride} (h : ∀ r ∈ R, RideOk r) (hn : R.length ≤ 256) : (0 ≤ secR bike f t R ∧ secR bike f t R ≤ 600000000000000) ∧ (0 ≤ cntR bike f t R ∧ cntR bike f t R ≤ 200000) := by
  have := secR_bd (bike := bike) (f := f) (t := t) (K := 512) fun r hr => ⟨h r hr, (h r hr).ll⟩
  omega
theorem getDk {l : List Int} {k : Nat} (h : k < l.length) : l.getD k 0 = l[k] := by simp [h]
set_option maxHeartbeats 1000000 in
theorem wearOf (HA RA A : Option Addr) (hs rs : List Int) (R : List Ride) (hc rc cap : Nat) (bike kind f t : Int) (w0 : World) (hW : WearAt w0 HA RA hs rs) (hR : RidesAt w0 A R) :
    Calls Try.prog 12 #[.agg #[.slice HA hs.length hc, .slice RA rs.length rc], .slice A R.length cap, I bike, I kind, .agg #[I f, I t]] w0 fun e w' => e = .returned (.tuple #[I (ofVal hs rs R bike kind f t), I (ofErr hs rs R bike kind f t)]) ∧ Below w0.heap.size w0 w' := by
  have H := SH.refl w0
  refine Calls.ofWP Try.func12 rfl Try.results12 Try.ntmps12 rfl ?_
  refine WP.seq ?_
  refine WP.region ?_
  refine OPS.box rfl rfl rfl rfl (cA rfl) H ?_
  clear H; intro g5 w H
  refine OPS.box rfl rfl rfl rfl (cA rfl) H ?_
  clear H; intro g9 w H
  refine OPS.val rfl rfl rfl (Ev.asI rfl) ?_
  refine OPS.val rfl rfl rfl (Ev.asI rfl) ?_
  refine OPS.nil ?_
  refine WP.seq ?_
  refine WP.seq ?_
  refine WP.region ?_
  refine OPS.val rfl rfl rfl ((by first | exact Ev.loadO 0 H rfl (agg_run rfl) (size_run rfl) (by first | assumption | rfl) rfl | exact Ev.loadO 1 H rfl (agg_run rfl) (size_run rfl) (by first | assumption | rfl) rfl | exact Ev.loadO 2 H rfl (agg_run rfl) (size_run rfl) (by first | assumption | rfl) rfl | exact Ev.loadO 3 H rfl (agg_run rfl) (size_run rfl) (by first | assumption | rfl) rfl | exact Ev.loadO 4 H rfl (agg_run rfl) (size_run rfl) (by first | assumption | rfl) rfl | exact Ev.loadO 5 H rfl (agg_run rfl) (size_run rfl) (by first | assumption | rfl) rfl | exact Ev.loadO 6 H rfl (agg_run rfl) (size_run rfl) (by first | assumption | rfl) rfl | exact Ev.loadN [_, _] (agg_run rfl) (size_run rfl) rfl ⟨H.ldL 0 rfl _ rfl, H.ldL 0 rfl _ rfl, trivial⟩ | exact Ev.loadN [_, _] (agg_run rfl) (size_run rfl) rfl ⟨H.ldL 1 rfl _ rfl, H.ldL 1 rfl _ rfl, trivial⟩ | exact Ev.loadN [_, _] (agg_run rfl) (size_run rfl) rfl ⟨H.ldL 2 rfl _ rfl, H.ldL 2 rfl _ rfl, trivial⟩ | exact Ev.loadN [_, _] (agg_run rfl) (size_run rfl) rfl ⟨H.ldL 3 rfl _ rfl, H.ldL 3 rfl _ rfl, trivial⟩ | exact Ev.loadN [_, _] (agg_run rfl) (size_run rfl) rfl ⟨H.ldL 4 rfl _ rfl, H.ldL 4 rfl _ rfl, trivial⟩ | (change Ev _ _ _ _ (Op.load 24 (Operand.tmp 5)) _; fail))) ?_
  refine OPS.call (d := some 15) rfl rfl rfl (EvC.func (fun_run rfl)) (wearCheck HA RA hs rs hc rc w (hW.sh H)) ?_
  rintro _ w ⟨rfl, hb⟩
  refine ⟨_, rfl, ?_⟩
  replace H := H.toBelow hb; clear hb
  refine OPS.val rfl rfl rfl (Ev.asI rfl) ?_
  refine OPS.nil ?_
  refine WP.seq ?_
  refine WP.region ?_
  refine OPS.val rfl rfl rfl (Ev.mvI rfl) ?_
  refine OPS.val rfl rfl rfl (Ev.neq rfl rfl) ?_
  refine OPS.nil ?_
  refine WP.cond rfl (fun hc2 => ?_) (fun hc2 => ?_)
  · refine WP.seq ?_
    refine WP.region ?_
    refine OPS.val rfl rfl rfl (Ev.mvI rfl) ?_
    refine OPS.val rfl rfl rfl (Ev.asI rfl) ?_
    refine OPS.val rfl rfl rfl (Ev.asI rfl) ?_
    refine OPS.nil ?_
    refine WP.ret ⟨_, rfl, ?_⟩
    have h1 : wearErr hs rs ≠ 0 := by simpa using hc2
    have he : ofErr hs rs R bike kind f t = wearErr hs rs := by rw [ofErr, if_pos h1]
    exact ⟨by rw [ofVal, he, if_neg h1]; rfl, H.below⟩
  have h1 : ¬ wearErr hs rs ≠ 0 := by simpa using hc2
  obtain ⟨k1, k2, k3, k4, k5⟩ := wear_ok (Classical.not_not.1 h1)
  refine WP.skip ?_
  refine WP.seq ?_
  refine WP.seq ?_
  refine WP.region ?_
  refine OPS.val rfl rfl rfl (Ev.mvI rfl) ?_
  refine OPS.val rfl rfl rfl (Ev.lss rfl rfl) ?_
  refine OPS.val rfl rfl rfl (Ev.mvB rfl) ?_
  refine OPS.gval rfl rfl rfl rfl rfl (fun hg => Ev.mvI (by first | rfl | exact gvE hg rfl)) ?_
  refine OPS.gval rfl rfl rfl rfl rfl (fun hg => Ev.fieldAddr (fld_run rfl) (by first | rfl | exact gvE hg rfl)) ?_
  refine OPS.gval rfl rfl rfl rfl rfl (fun hg => Ev.load1 (agg_run rfl) (by first | rfl | exact gvE hg rfl) (by first | exact H.ldL 0 rfl _ rfl | exact H.ldL 1 rfl _ rfl | exact H.ldL 2 rfl _ rfl | exact H.ldL 3 rfl _ rfl | exact H.ldL 4 rfl _ rfl | exact H.ldL 5 rfl _ rfl | exact H.ldL 6 rfl _ rfl | exact H.ldL 7 rfl _ rfl | exact H.ld0 (by assumption) | assumption | exact H.ldS (by assumption) (by assumption))) ?_
  refine OPS.gval rfl rfl rfl rfl rfl (fun hg => Ev.len (el_run rfl) (by first | rfl | exact gvE hg rfl)) ?_
  refine OPS.gval rfl rfl rfl rfl rfl (fun hg => Ev.geq (by first | rfl | exact gvE hg rfl) (by first | rfl | exact gvE hg rfl)) ?_
  refine OPS.val rfl rfl rfl ((by first | exact Ev.pickOr rfl rfl rfl | exact Ev.pickAnd rfl rfl rfl)) ?_
  refine OPS.nil ?_
  refine WP.cond rfl (fun hc4 => ?_) (fun hc4 => ?_)
  · refine WP.seq ?_
    refine WP.region ?_
    refine OPS.val rfl rfl rfl (Ev.asI rfl) ?_
    refine OPS.val rfl rfl rfl (Ev.asI rfl) ?_
    refine OPS.nil ?_
    refine WP.ret ⟨_, rfl, ?_⟩
    have h2 : kind < 0 ∨ (hs.length : Int) ≤ kind := by grind
    have he : ofErr hs rs R bike kind f t = 7 := by rw [ofErr, if_neg h1, if_pos h2]
    exact ⟨by rw [ofVal, he, if_neg (by decide)]; rfl, H.below⟩
  have h2 : ¬ (kind < 0 ∨ (hs.length : Int) ≤ kind) := by grind
  obtain ⟨k, rfl⟩ := Int.eq_ofNat_of_zero_le (show 0 ≤ kind by omega)
  have hkl : k < hs.length := by omega
  have he : ofErr hs rs R bike k f t = askErr R bike f t := by rw [ofErr, if_neg h1, if_neg h2]
  refine WP.skip ?_
  refine WP.seq ?_
  refine WP.seq ?_
  refine WP.region ?_
  refine OPS.val rfl rfl rfl (Ev.mvS rfl) ?_
  refine OPS.val rfl rfl rfl (Ev.mvI rfl) ?_
  refine OPS.val rfl rfl rfl ((by first | exact Ev.loadO 0 H rfl (agg_run rfl) (size_run rfl) (by first | assumption | rfl) rfl | exact Ev.loadO 1 H rfl (agg_run rfl) (size_run rfl) (by first | assumption | rfl) rfl | exact Ev.loadO 2 H rfl (agg_run rfl) (size_run rfl) (by first | assumption | rfl) rfl | exact Ev.loadO 3 H rfl (agg_run rfl) (size_run rfl) (by first | assumption | rfl) rfl | exact Ev.loadO 4 H rfl (agg_run rfl) (size_run rfl) (by first | assumption | rfl) rfl | exact Ev.loadO 5 H rfl (agg_run rfl) (size_run rfl) (by first | assumption | rfl) rfl | exact Ev.loadO 6 H rfl (agg_run rfl) (size_run rfl) (by first | assumption | rfl) rfl | exact Ev.loadN [_, _] (agg_run rfl) (size_run rfl) rfl ⟨H.ldL 0 rfl _ rfl, H.ldL 0 rfl _ rfl, trivial⟩ | exact Ev.loadN [_, _] (agg_run rfl) (size_run rfl) rfl ⟨H.ldL 1 rfl _ rfl, H.ldL 1 rfl _ rfl, trivial⟩ | exact Ev.loadN [_, _] (agg_run rfl) (size_run rfl) rfl ⟨H.ldL 2 rfl _ rfl, H.ldL 2 rfl _ rfl, trivial⟩ | exact Ev.loadN [_, _] (agg_run rfl) (size_run rfl) rfl ⟨H.ldL 3 rfl _ rfl, H.ldL 3 rfl _ rfl, trivial⟩ | exact Ev.loadN [_, _] (agg_run rfl) (size_run rfl) rfl ⟨H.ldL 4 rfl _ rfl, H.ldL 4 rfl _ rfl, trivial⟩ | (change Ev _ _ _ _ (Op.load 29 (Operand.tmp 9)) _; fail))) ?_
  refine OPS.call (d := some 31) rfl rfl rfl (EvC.func (fun_run rfl)) (wearAsk A R cap bike f t w (hR.sh H)) ?_
  rintro _ w ⟨rfl, hb⟩
  refine ⟨_, rfl, ?_⟩
  replace H := H.toBelow hb; clear hb
  refine OPS.val rfl rfl rfl (Ev.asI rfl) ?_
  refine OPS.nil ?_
  refine WP.seq ?_
  refine WP.region ?_
  refine OPS.val rfl rfl rfl (Ev.mvI rfl) ?_
  refine OPS.val rfl rfl rfl (Ev.neq rfl rfl) ?_
  refine OPS.nil ?_
  refine WP.cond rfl (fun hc7 => ?_) (fun hc7 => ?_)
  · refine WP.seq ?_
    refine WP.region ?_
    refine OPS.val rfl rfl rfl (Ev.mvI rfl) ?_
    refine OPS.val rfl rfl rfl (Ev.asI rfl) ?_
    refine OPS.val rfl rfl rfl (Ev.asI rfl) ?_
    refine OPS.nil ?_
    refine WP.ret ⟨_, rfl, ?_⟩
    have h3 : askErr R bike f t ≠ 0 := by simpa using hc7
    exact ⟨by rw [ofVal, he, if_neg h3]; rfl, H.below⟩
  have h3 : askErr R bike f t = 0 := by simpa using hc7
  obtain ⟨_, a2, a3⟩ := ask_ok h3
  have hsb := sec_any (bike := bike) (f := f) (t := t) a3 a2
  have hv : ofVal hs rs R bike k f t = wornV hs[k] (rs[k]'(by omega)) (cntR bike f t R) (secR bike f t R) := by rw [ofVal, he, if_pos h3, Int.toNat_natCast, getDk hkl, getDk (show k < rs.length by omega)]
  refine WP.skip ?_
  refine WP.seq ?_
  refine WP.rquiet mixed (by kernel_rfl) H ?_
  clear H; intro w hbw9 H
  refine OPS.val rfl rfl rfl ((by first | exact Ev.loadO 0 H rfl (agg_run rfl) (size_run rfl) (by first | assumption | rfl) rfl | exact Ev.loadO 1 H rfl (agg_run rfl) (size_run rfl) (by first | assumption | rfl) rfl | exact Ev.loadO 2 H rfl (agg_run rfl) (size_run rfl) (by first | assumption | rfl) rfl | exact Ev.loadO 3 H rfl (agg_run rfl) (size_run rfl) (by first | assumption | rfl) rfl | exact Ev.loadO 4 H rfl (agg_run rfl) (size_run rfl) (by first | assumption | rfl) rfl | exact Ev.loadO 5 H rfl (agg_run rfl) (size_run rfl) (by first | assumption | rfl) rfl | exact Ev.loadO 6 H rfl (agg_run rfl) (size_run rfl) (by first | assumption | rfl) rfl | exact Ev.loadN [_, _] (agg_run rfl) (size_run rfl) rfl ⟨H.ldL 0 rfl _ rfl, H.ldL 0 rfl _ rfl, trivial⟩ | exact Ev.loadN [_, _] (agg_run rfl) (size_run rfl) rfl ⟨H.ldL 1 rfl _ rfl, H.ldL 1 rfl _ rfl, trivial⟩ | exact Ev.loadN [_, _] (agg_run rfl) (size_run rfl) rfl ⟨H.ldL 2 rfl _ rfl, H.ldL 2 rfl _ rfl, trivial⟩ | exact Ev.loadN [_, _] (agg_run rfl) (size_run rfl) rfl ⟨H.ldL 3 rfl _ rfl, H.ldL 3 rfl _ rfl, trivial⟩ | exact Ev.loadN [_, _] (agg_run rfl) (size_run rfl) rfl ⟨H.ldL 4 rfl _ rfl, H.ldL 4 rfl _ rfl, trivial⟩ | (change Ev _ _ _ _ (Op.load 24 (Operand.tmp 5)) _; fail))) ?_
  refine OPS.val rfl rfl rfl (Ev.mvI rfl) ?_
  refine OPS.val rfl rfl rfl (Ev.mvS rfl) ?_
  refine OPS.val rfl rfl rfl (Ev.mvI rfl) ?_
  refine OPS.val rfl rfl rfl ((by first | exact Ev.loadO 0 H rfl (agg_run rfl) (size_run rfl) (by first | assumption | rfl) rfl | exact Ev.loadO 1 H rfl (agg_run rfl) (size_run rfl) (by first | assumption | rfl) rfl | exact Ev.loadO 2 H rfl (agg_run rfl) (size_run rfl) (by first | assumption | rfl) rfl | exact Ev.loadO 3 H rfl (agg_run rfl) (size_run rfl) (by first | assumption | rfl) rfl | exact Ev.loadO 4 H rfl (agg_run rfl) (size_run rfl) (by first | assumption | rfl) rfl | exact Ev.loadO 5 H rfl (agg_run rfl) (size_run rfl) (by first | assumption | rfl) rfl | exact Ev.loadO 6 H rfl (agg_run rfl) (size_run rfl) (by first | assumption | rfl) rfl | exact Ev.loadN [_, _] (agg_run rfl) (size_run rfl) rfl ⟨H.ldL 0 rfl _ rfl, H.ldL 0 rfl _ rfl, trivial⟩ | exact Ev.loadN [_, _] (agg_run rfl) (size_run rfl) rfl ⟨H.ldL 1 rfl _ rfl, H.ldL 1 rfl _ rfl, trivial⟩ | exact Ev.loadN [_, _] (agg_run rfl) (size_run rfl) rfl ⟨H.ldL 2 rfl _ rfl, H.ldL 2 rfl _ rfl, trivial⟩ | exact Ev.loadN [_, _] (agg_run rfl) (size_run rfl) rfl ⟨H.ldL 3 rfl _ rfl, H.ldL 3 rfl _ rfl, trivial⟩ | exact Ev.loadN [_, _] (agg_run rfl) (size_run rfl) rfl ⟨H.ldL 4 rfl _ rfl, H.ldL 4 rfl _ rfl, trivial⟩ | (change Ev _ _ _ _ (Op.load 29 (Operand.tmp 9)) _; fail))) ?_
  refine OPS.callq rfl rfl rfl (EvC.func (fun_run rfl)) (fun w2 hb2 => wearUse2 A R cap bike f t w2 ((hR.sh H).below hb2) a2 a3) ?_
  refine OPS.callq (v := I (wornV hs[k] (rs[k]'(by omega)) (cntR bike f t R) (secR bike f t R))) rfl rfl rfl (EvC.func (fun_run rfl)) (fun w2 hb2 => wearWorn HA RA hs rs hc rc k (cntR bike f t R) (secR bike f t R) w2 ((hW.sh H).below hb2) hkl (by omega) (k4 k hkl) (k5 k (by omega)) hsb.2 hsb.1) ?_
  refine OPS.val rfl rfl rfl (Ev.asI rfl) ?_
  refine OPS.val rfl rfl rfl (Ev.asI rfl) ?_
  refine OPS.nilq H ?_
  clear H; intro w hbx9 H
  refine WP.ret ⟨_, rfl, ?_⟩
  exact ⟨by rw [hv, he, h3]; rfl, H.below⟩
set_option maxHeartbeats 1000000 in
theorem r47Of (HA RA A : Option Addr) (hs rs : List Int) (R : List Ride) (hc rc cap : Nat) (bike kind f t : Int) (w0 : World) (hW : WearAt w0 HA RA hs rs) (hR : RidesAt w0 A R) (hsm : R.length ≤ 256 → R.length ≤ 21 ∧ ∀ r ∈ R, r.L.l.length ≤ 40) :
    Calls Try.prog 13 #[.agg #[.slice HA hs.length hc, .slice RA rs.length rc], .slice A R.length cap, I bike, I kind, .agg #[I f, I t]] w0 fun e w' => e = .returned (.tuple #[I (ofVal hs rs R bike kind f t), I (ofErr hs rs R bike kind f t)]) ∧ Below w0.heap.size w0 w' := by
  have H := SH.refl w0
  refine Calls.ofWP Try.func13 rfl Try.results13 Try.ntmps13 rfl ?_
  refine WP.seq ?_
  refine WP.region ?_
  refine OPS.box rfl rfl rfl rfl (cA rfl) H ?_
  clear H; intro g5 w H
  refine OPS.box rfl rfl rfl rfl (cA rfl) H ?_
  clear H; intro g9 w H
  refine OPS.val rfl rfl rfl (Ev.asI rfl) ?_
  refine OPS.val rfl rfl rfl (Ev.asI rfl) ?_
  refine OPS.nil ?_
  refine WP.seq ?_
  refine WP.seq ?_
  refine WP.region ?_
  refine OPS.val rfl rfl rfl ((by first | exact Ev.loadO 0 H rfl (agg_run rfl) (size_run rfl) (by first | assumption | rfl) rfl | exact Ev.loadO 1 H rfl (agg_run rfl) (size_run rfl) (by first | assumption | rfl) rfl | exact Ev.loadO 2 H rfl (agg_run rfl) (size_run rfl) (by first | assumption | rfl) rfl | exact Ev.loadO 3 H rfl (agg_run rfl) (size_run rfl) (by first | assumption | rfl) rfl | exact Ev.loadO 4 H rfl (agg_run rfl) (size_run rfl) (by first | assumption | rfl) rfl | exact Ev.loadO 5 H rfl (agg_run rfl) (size_run rfl) (by first | assumption | rfl) rfl | exact Ev.loadO 6 H rfl (agg_run rfl) (size_run rfl) (by first | assumption | rfl) rfl | exact Ev.loadN [_, _] (agg_run rfl) (size_run rfl) rfl ⟨H.ldL 0 rfl _ rfl, H.ldL 0 rfl _ rfl, trivial⟩ | exact Ev.loadN [_, _] (agg_run rfl) (size_run rfl) rfl ⟨H.ldL 1 rfl _ rfl, H.ldL 1 rfl _ rfl, trivial⟩ | exact Ev.loadN [_, _] (agg_run rfl) (size_run rfl) rfl ⟨H.ldL 2 rfl _ rfl, H.ldL 2 rfl _ rfl, trivial⟩ | exact Ev.loadN [_, _] (agg_run rfl) (size_run rfl) rfl ⟨H.ldL 3 rfl _ rfl, H.ldL 3 rfl _ rfl, trivial⟩ | exact Ev.loadN [_, _] (agg_run rfl) (size_run rfl) rfl ⟨H.ldL 4 rfl _ rfl, H.ldL 4 rfl _ rfl, trivial⟩ | (change Ev _ _ _ _ (Op.load 24 (Operand.tmp 5)) _; fail))) ?_
  refine OPS.call (d := some 17) rfl rfl rfl (EvC.func (fun_run rfl)) (r47Check HA RA hs rs hc rc w (hW.sh H)) ?_
  rintro _ w ⟨rfl, hb⟩
  refine ⟨_, rfl, ?_⟩
  replace H := H.toBelow hb; clear hb
  refine OPS.val rfl rfl rfl (Ev.asI rfl) ?_
  refine OPS.nil ?_
  refine WP.seq ?_
  refine WP.region ?_
  refine OPS.val rfl rfl rfl (Ev.mvI rfl) ?_
  refine OPS.val rfl rfl rfl (Ev.neq rfl rfl) ?_
  refine OPS.nil ?_
  refine WP.cond rfl (fun hc2 => ?_) (fun hc2 => ?_)
  · refine WP.seq ?_
    refine WP.region ?_
    refine OPS.val rfl rfl rfl (Ev.mvI rfl) ?_
    refine OPS.val rfl rfl rfl (Ev.asI rfl) ?_
    refine OPS.val rfl rfl rfl (Ev.asI rfl) ?_
    refine OPS.nil ?_
    refine WP.ret ⟨_, rfl, ?_⟩
    have h1 : wearErr hs rs ≠ 0 := by simpa using hc2
    have he : ofErr hs rs R bike kind f t = wearErr hs rs := by rw [ofErr, if_pos h1]
    exact ⟨by rw [ofVal, he, if_neg h1]; rfl, H.below⟩
  have h1 : ¬ wearErr hs rs ≠ 0 := by simpa using hc2
  obtain ⟨k1, k2, k3, k4, k5⟩ := wear_ok (Classical.not_not.1 h1)
  refine WP.skip ?_
  refine WP.seq ?_
  refine WP.seq ?_
  refine WP.region ?_
  refine OPS.val rfl rfl rfl (Ev.mvI rfl) ?_
  refine OPS.val rfl rfl rfl (Ev.lss rfl rfl) ?_
  refine OPS.val rfl rfl rfl (Ev.mvB rfl) ?_
  refine OPS.gval rfl rfl rfl rfl rfl (fun hg => Ev.mvI (by first | rfl | exact gvE hg rfl)) ?_
  refine OPS.gval rfl rfl rfl rfl rfl (fun hg => Ev.fieldAddr (fld_run rfl) (by first | rfl | exact gvE hg rfl)) ?_
  refine OPS.gval rfl rfl rfl rfl rfl (fun hg => Ev.load1 (agg_run rfl) (by first | rfl | exact gvE hg rfl) (by first | exact H.ldL 0 rfl _ rfl | exact H.ldL 1 rfl _ rfl | exact H.ldL 2 rfl _ rfl | exact H.ldL 3 rfl _ rfl | exact H.ldL 4 rfl _ rfl | exact H.ldL 5 rfl _ rfl | exact H.ldL 6 rfl _ rfl | exact H.ldL 7 rfl _ rfl | exact H.ld0 (by assumption) | assumption | exact H.ldS (by assumption) (by assumption))) ?_
  refine OPS.gval rfl rfl rfl rfl rfl (fun hg => Ev.len (el_run rfl) (by first | rfl | exact gvE hg rfl)) ?_
  refine OPS.gval rfl rfl rfl rfl rfl (fun hg => Ev.geq (by first | rfl | exact gvE hg rfl) (by first | rfl | exact gvE hg rfl)) ?_
  refine OPS.val rfl rfl rfl ((by first | exact Ev.pickOr rfl rfl rfl | exact Ev.pickAnd rfl rfl rfl)) ?_
  refine OPS.nil ?_
  refine WP.cond rfl (fun hc4 => ?_) (fun hc4 => ?_)
  · refine WP.seq ?_
    refine WP.region ?_
    refine OPS.val rfl rfl rfl (Ev.asI rfl) ?_
    refine OPS.val rfl rfl rfl (Ev.asI rfl) ?_
    refine OPS.nil ?_
    refine WP.ret ⟨_, rfl, ?_⟩
    have h2 : kind < 0 ∨ (hs.length : Int) ≤ kind := by grind
    have he : ofErr hs rs R bike kind f t = 7 := by rw [ofErr, if_neg h1, if_pos h2]
    exact ⟨by rw [ofVal, he, if_neg (by decide)]; rfl, H.below⟩
  have h2 : ¬ (kind < 0 ∨ (hs.length : Int) ≤ kind) := by grind
  obtain ⟨k, rfl⟩ := Int.eq_ofNat_of_zero_le (show 0 ≤ kind by omega)
  have hkl : k < hs.length := by omega
  have he : ofErr hs rs R bike k f t = askErr R bike f t := by rw [ofErr, if_neg h1, if_neg h2]
  refine WP.skip ?_
  refine WP.seq ?_
  refine WP.seq ?_
  refine WP.region ?_
  refine OPS.val rfl rfl rfl (Ev.mvS rfl) ?_
  refine OPS.val rfl rfl rfl (Ev.mvI rfl) ?_
  refine OPS.val rfl rfl rfl ((by first | exact Ev.loadO 0 H rfl (agg_run rfl) (size_run rfl) (by first | assumption | rfl) rfl | exact Ev.loadO 1 H rfl (agg_run rfl) (size_run rfl) (by first | assumption | rfl) rfl | exact Ev.loadO 2 H rfl (agg_run rfl) (size_run rfl) (by first | assumption | rfl) rfl | exact Ev.loadO 3 H rfl (agg_run rfl) (size_run rfl) (by first | assumption | rfl) rfl | exact Ev.loadO 4 H rfl (agg_run rfl) (size_run rfl) (by first | assumption | rfl) rfl | exact Ev.loadO 5 H rfl (agg_run rfl) (size_run rfl) (by first | assumption | rfl) rfl | exact Ev.loadO 6 H rfl (agg_run rfl) (size_run rfl) (by first | assumption | rfl) rfl | exact Ev.loadN [_, _] (agg_run rfl) (size_run rfl) rfl ⟨H.ldL 0 rfl _ rfl, H.ldL 0 rfl _ rfl, trivial⟩ | exact Ev.loadN [_, _] (agg_run rfl) (size_run rfl) rfl ⟨H.ldL 1 rfl _ rfl, H.ldL 1 rfl _ rfl, trivial⟩ | exact Ev.loadN [_, _] (agg_run rfl) (size_run rfl) rfl ⟨H.ldL 2 rfl _ rfl, H.ldL 2 rfl _ rfl, trivial⟩ | exact Ev.loadN [_, _] (agg_run rfl) (size_run rfl) rfl ⟨H.ldL 3 rfl _ rfl, H.ldL 3 rfl _ rfl, trivial⟩ | exact Ev.loadN [_, _] (agg_run rfl) (size_run rfl) rfl ⟨H.ldL 4 rfl _ rfl, H.ldL 4 rfl _ rfl, trivial⟩ | (change Ev _ _ _ _ (Op.load 29 (Operand.tmp 9)) _; fail))) ?_
  refine OPS.call (d := some 33) rfl rfl rfl (EvC.func (fun_run rfl)) (r47Right A R cap bike f t w (hR.sh H)) ?_
  rintro _ w ⟨rfl, hb⟩
  refine ⟨_, rfl, ?_⟩
  replace H := H.toBelow hb; clear hb
  refine OPS.val rfl rfl rfl (Ev.asI rfl) ?_
  refine OPS.nil ?_
  refine WP.seq ?_
  refine WP.region ?_
  refine OPS.val rfl rfl rfl (Ev.mvI rfl) ?_
  refine OPS.val rfl rfl rfl (Ev.neq rfl rfl) ?_
  refine OPS.nil ?_
  refine WP.cond rfl (fun hc7 => ?_) (fun hc7 => ?_)
  · refine WP.seq ?_
    refine WP.region ?_
    refine OPS.val rfl rfl rfl (Ev.mvI rfl) ?_
    refine OPS.val rfl rfl rfl (Ev.asI rfl) ?_
    refine OPS.val rfl rfl rfl (Ev.asI rfl) ?_
    refine OPS.nil ?_
    refine WP.ret ⟨_, rfl, ?_⟩
    have h3 : askErr R bike f t ≠ 0 := by simpa using hc7
    exact ⟨by rw [ofVal, he, if_neg h3]; rfl, H.below⟩
  have h3 : askErr R bike f t = 0 := by simpa using hc7
  obtain ⟨_, a2, a3⟩ := ask_ok h3
  have hsb := sec_small (bike := bike) (f := f) (t := t) a3 (hsm a2).2 (hsm a2).1
  have hv : ofVal hs rs R bike k f t = wornV hs[k] (rs[k]'(by omega)) (cntR bike f t R) (secR bike f t R) := by rw [ofVal, he, if_pos h3, Int.toNat_natCast, getDk hkl, getDk (show k < rs.length by omega)]
  refine WP.skip ?_
  refine WP.seq ?_
  refine WP.region ?_
  refine OPS.val rfl rfl rfl (Ev.mvS rfl) ?_
  refine OPS.val rfl rfl rfl (Ev.mvI rfl) ?_
  refine OPS.val rfl rfl rfl ((by first | exact Ev.loadO 0 H rfl (agg_run rfl) (size_run rfl) (by first | assumption | rfl) rfl | exact Ev.loadO 1 H rfl (agg_run rfl) (size_run rfl) (by first | assumption | rfl) rfl | exact Ev.loadO 2 H rfl (agg_run rfl) (size_run rfl) (by first | assumption | rfl) rfl | exact Ev.loadO 3 H rfl (agg_run rfl) (size_run rfl) (by first | assumption | rfl) rfl | exact Ev.loadO 4 H rfl (agg_run rfl) (size_run rfl) (by first | assumption | rfl) rfl | exact Ev.loadO 5 H rfl (agg_run rfl) (size_run rfl) (by first | assumption | rfl) rfl | exact Ev.loadO 6 H rfl (agg_run rfl) (size_run rfl) (by first | assumption | rfl) rfl | exact Ev.loadN [_, _] (agg_run rfl) (size_run rfl) rfl ⟨H.ldL 0 rfl _ rfl, H.ldL 0 rfl _ rfl, trivial⟩ | exact Ev.loadN [_, _] (agg_run rfl) (size_run rfl) rfl ⟨H.ldL 1 rfl _ rfl, H.ldL 1 rfl _ rfl, trivial⟩ | exact Ev.loadN [_, _] (agg_run rfl) (size_run rfl) rfl ⟨H.ldL 2 rfl _ rfl, H.ldL 2 rfl _ rfl, trivial⟩ | exact Ev.loadN [_, _] (agg_run rfl) (size_run rfl) rfl ⟨H.ldL 3 rfl _ rfl, H.ldL 3 rfl _ rfl, trivial⟩ | exact Ev.loadN [_, _] (agg_run rfl) (size_run rfl) rfl ⟨H.ldL 4 rfl _ rfl, H.ldL 4 rfl _ rfl, trivial⟩ | (change Ev _ _ _ _ (Op.load 29 (Operand.tmp 9)) _; fail))) ?_
  refine OPS.call (d := some 41) rfl rfl rfl (EvC.func (fun_run rfl)) (r47Legs A R cap bike f t w (hR.sh H) a2 a3) ?_
  rintro _ w ⟨rfl, hb⟩
  refine ⟨_, rfl, ?_⟩
  replace H := H.toBelow hb; clear hb
  refine OPS.val rfl rfl rfl (Ev.mvT rfl) ?_
  refine OPS.val rfl rfl rfl (Ev.extract rfl rfl) ?_
  refine OPS.val rfl rfl rfl (Ev.extract rfl rfl) ?_
  refine OPS.val rfl rfl rfl (Ev.asI rfl) ?_
  refine OPS.val rfl rfl rfl (Ev.asI rfl) ?_
  refine OPS.nil ?_
  refine WP.seq ?_
  refine WP.region ?_
  refine OPS.val rfl rfl rfl ((by first | exact Ev.loadO 0 H rfl (agg_run rfl) (size_run rfl) (by first | assumption | rfl) rfl | exact Ev.loadO 1 H rfl (agg_run rfl) (size_run rfl) (by first | assumption | rfl) rfl | exact Ev.loadO 2 H rfl (agg_run rfl) (size_run rfl) (by first | assumption | rfl) rfl | exact Ev.loadO 3 H rfl (agg_run rfl) (size_run rfl) (by first | assumption | rfl) rfl | exact Ev.loadO 4 H rfl (agg_run rfl) (size_run rfl) (by first | assumption | rfl) rfl | exact Ev.loadO 5 H rfl (agg_run rfl) (size_run rfl) (by first | assumption | rfl) rfl | exact Ev.loadO 6 H rfl (agg_run rfl) (size_run rfl) (by first | assumption | rfl) rfl | exact Ev.loadN [_, _] (agg_run rfl) (size_run rfl) rfl ⟨H.ldL 0 rfl _ rfl, H.ldL 0 rfl _ rfl, trivial⟩ | exact Ev.loadN [_, _] (agg_run rfl) (size_run rfl) rfl ⟨H.ldL 1 rfl _ rfl, H.ldL 1 rfl _ rfl, trivial⟩ | exact Ev.loadN [_, _] (agg_run rfl) (size_run rfl) rfl ⟨H.ldL 2 rfl _ rfl, H.ldL 2 rfl _ rfl, trivial⟩ | exact Ev.loadN [_, _] (agg_run rfl) (size_run rfl) rfl ⟨H.ldL 3 rfl _ rfl, H.ldL 3 rfl _ rfl, trivial⟩ | exact Ev.loadN [_, _] (agg_run rfl) (size_run rfl) rfl ⟨H.ldL 4 rfl _ rfl, H.ldL 4 rfl _ rfl, trivial⟩ | (change Ev _ _ _ _ (Op.load 24 (Operand.tmp 5)) _; fail))) ?_
  refine OPS.val rfl rfl rfl (Ev.mvI rfl) ?_
  refine OPS.val rfl rfl rfl (Ev.mvI rfl) ?_
  refine OPS.val rfl rfl rfl (Ev.mvI rfl) ?_
  refine OPS.call (d := some 48) rfl rfl rfl (EvC.func (fun_run rfl)) (r47Wear HA RA hs rs hc rc k (cntR bike f t R) (secR bike f t R) w (hW.sh H) hkl (by omega) (k4 k hkl) (k5 k (by omega)) (by omega) hsb.1) ?_
  rintro _ w ⟨rfl, hb⟩
  refine ⟨_, rfl, ?_⟩
  replace H := H.toBelow hb; clear hb
  refine OPS.val rfl rfl rfl (Ev.asI rfl) ?_
  refine OPS.val rfl rfl rfl (Ev.asI rfl) ?_
  refine OPS.nil ?_
  refine WP.ret ⟨_, rfl, ?_⟩
  exact ⟨by rw [hv, he, h3]; rfl, H.below⟩
end Go.Proofs.Ytdlfadbdchjinaa
