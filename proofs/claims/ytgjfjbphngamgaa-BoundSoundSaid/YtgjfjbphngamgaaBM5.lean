/-
  Plain: transports: the best prices.
-/
import Derived.Test.YtgjfjbphngamgaaBM4
import Derived.Test.YtgjfjbphngamgaaFT14
set_option linter.all false
namespace Go.Proofs.Ytgjfjbphngamgaa.Flo
open Go Go.W

/-- THE BEST VALUE of prices -/
def DMax (C D : List Int) (tm : List (List Int)) (T : Int) : Prop := (∃ u v : Nat → Int, (∀ j, 0 ≤ u j) ∧ Feas 1 tm u v ∧ dn D v - dn C u = T) ∧ ∀ u v : Nat → Int, (∀ j, 0 ≤ u j) → Feas 1 tm u v → dn D v - dn C u ≤ T
theorem DMax.unique {C D : List Int} {tm : List (List Int)} {T T' : Int} (h : DMax C D tm T) (h' : DMax C D tm T') : T = T' := by
  obtain ⟨⟨u, v, h1, h2, h3⟩, h4⟩ := h
  obtain ⟨⟨u', v', h1', h2', h3'⟩, h4'⟩ := h'
  have := h4 u' v' h1' h2'
  have := h4' u v h1 h2
  omega
theorem dn_single : ∀ (D : List Int) (k : Nat) (N : Int) (h : k < D.length), dn D (fun q => if q = k then N else 0) = D[k] * N
  | [], _, _, h => by simp at h
  | d :: D, 0, N, _ => by
    simp only [dn, if_true, List.getElem_cons_zero]
    rw [dn_congr (v := fun _ => 0) (fun k _ => if_neg (by omega))]
    have : ∀ D : List Int, dn D (fun _ => 0) = 0 := fun D => by induction D with | nil => rfl | cons a D ih => simp only [dn, ih]; omega
    rw [this]; omega
  | d :: D, k + 1, N, h => by
    simp only [dn, List.getElem_cons_succ]
    rw [dn_congr (v := fun q => if q = k then N else 0) (fun q _ => by by_cases hq : q = k <;> simp [hq]), dn_single D k N (by simpa using h)]
    simp
/-- the least time and price by which a node is reached, or 0 -/
def VMin (tm : List (List Int)) (u : Nat → Int) (k n : Nat) (v : Int) (found : Bool) : Prop :=
  if found = true then (∃ j x, j < n ∧ tmAt tm j k = some x ∧ 0 ≤ x ∧ v = x + u j) ∧ ∀ j x, j < n → tmAt tm j k = some x → 0 ≤ x → v ≤ x + u j
  else v = 0 ∧ ∀ j x, j < n → tmAt tm j k = some x → x < 0
theorem VMin.zero {tm : List (List Int)} {u : Nat → Int} {k : Nat} : VMin tm u k 0 0 false := ⟨rfl, fun j x h => absurd h (by omega)⟩
theorem VMin.step {tm : List (List Int)} {u : Nat → Int} {k n : Nat} {v : Int} {found : Bool} (h : VMin tm u k n v found) {x : Int} (hx : tmAt tm n k = some x) :
    VMin tm u k (n + 1) (if (decide (0 ≤ x) && (!found || decide (x + u n < v))) = true then x + u n else v) (found || decide (0 ≤ x)) := by
  have key : ∀ {j y}, j < n + 1 → tmAt tm j k = some y → (j < n ∧ tmAt tm j k = some y) ∨ (j = n ∧ y = x) := fun {j y} hj hy => by
    by_cases he : j = n
    · subst he; rw [hx] at hy; cases hy; exact .inr ⟨rfl, rfl⟩
    · exact .inl ⟨by omega, hy⟩
  cases found with
  | false =>
    obtain ⟨rfl, h2⟩ := h
    by_cases h0 : 0 ≤ x
    · simp only [h0, decide_true, Bool.not_false, Bool.true_or, Bool.and_self, if_true, Bool.or_true]
      refine ⟨⟨n, x, by omega, hx, h0, rfl⟩, fun j y hj hy hy0 => ?_⟩
      rcases key hj hy with ⟨h3, h4⟩ | ⟨rfl, rfl⟩
      · have := h2 j y h3 h4; omega
      · omega
    · simp only [h0, decide_false, Bool.false_and, Bool.or_false, Bool.false_eq_true, if_false]
      refine ⟨rfl, fun j y hj hy => ?_⟩
      rcases key hj hy with ⟨h3, h4⟩ | ⟨rfl, rfl⟩
      · exact h2 j y h3 h4
      · omega
  | true =>
    obtain ⟨⟨j0, x0, a1, a2, a3, a4⟩, h2⟩ := h
    by_cases h0 : 0 ≤ x ∧ x + u n < v
    · simp only [h0.1, h0.2, decide_true, Bool.or_true, Bool.and_self, if_true]
      refine ⟨⟨n, x, by omega, hx, h0.1, rfl⟩, fun j y hj hy hy0 => ?_⟩
      rcases key hj hy with ⟨h3, h4⟩ | ⟨rfl, rfl⟩
      · have := h2 j y h3 h4 hy0; omega
      · omega
    · rw [if_neg (by simp; omega)]
      refine ⟨⟨j0, x0, by omega, a2, a3, a4⟩, fun j y hj hy hy0 => ?_⟩
      rcases key hj hy with ⟨h3, h4⟩ | ⟨rfl, rfl⟩
      · exact h2 j y h3 h4 hy0
      · omega
/-- what is asked of the numbers of a transport -/
structure Trans (C D : List Int) (tm : List (List Int)) : Prop where
  tab : Tab C D tm
  cb : ∀ c ∈ C, 1 ≤ c ∧ c ≤ 32
  db : ∀ d ∈ D, 1 ≤ d ∧ d ≤ 32
  cl : C.length ≤ 16
  dl : D.length ≤ 16
  tb : ∀ j k x, tmAt tm j k = some x → -1 ≤ x ∧ x ≤ 64000
  full : ∀ j k, j < C.length → k < D.length → ∃ x, tmAt tm j k = some x
theorem sum_le {l : List Int} {c : Int} (h : ∀ x ∈ l, 0 ≤ x ∧ x ≤ c) : 0 ≤ l.sum ∧ l.sum ≤ c * l.length := by
  induction l with
  | nil => simp
  | cons a l ih =>
    have := ih fun x hx => h x (List.mem_cons_of_mem _ hx)
    have := h a (by simp)
    simp only [List.sum_cons, List.length_cons]
    rw [show c * ((l.length + 1 : Nat) : Int) = c * l.length + c by rw [Int.natCast_add, Int.mul_add]; simp]
    omega
section
variable {C D : List Int} {tm : List (List Int)}
theorem Trans.dsum (h : Trans C D tm) : 0 ≤ D.sum ∧ D.sum ≤ 512 := by
  have h1 := sum_le (l := D) (c := 32) fun x hx => by have := h.db x hx; omega
  have := h.dl
  omega
/-- the network of the program -/
theorem stand_p (C D : List Int) : Stand (C.length + D.length + 2) 1 (1 + C.length) (C.length + D.length + 1) C.length D.length := ⟨by omega, rfl, by omega, by omega, by omega⟩
/-- that of the reference -/
theorem stand_r (C D : List Int) : Stand (C.length + D.length + 2) 2 (2 + C.length) 1 C.length D.length := ⟨by omega, rfl, by omega, by omega, by omega⟩
theorem Trans.ends (h : Trans C D tm) {i0 g0 last : Int} {l : List Arc} (hP : Stand (C.length + D.length + 2) i0 g0 last C.length D.length) (h2 : Two l (colArcs g0 i0 C tm) (brArcs last g0 D)) (hll : l.length ≤ 512) : endsErr (C.length + D.length + 2 : Nat) l 0 last = 0 := by
  have hn := net_nodes hP h.tab h2
  have hcl := h.cl
  have hdl := h.dl
  have h0 := hP.hl0
  have ha : arcsErr (C.length + D.length + 2 : Nat) l = 0 := by
    rw [arcsErr_drop (j := l.length) (Nat.le_refl _) (fun i hi _ => ?_)]
    · simp [arcsErr]
    · have hm := List.getElem_mem hi
      have h3 := hn l[i] hm
      refine ⟨by simp [arcBad, isNode]; omega, ?_⟩
      rcases arc_kind h2 hm with ⟨j, h1, _, _, h4⟩ | ⟨j, k, h1, h4, _, _, h5⟩ | ⟨k, h1, _, _, h4⟩
      · have := h.cb _ (List.mem_of_getElem? h1)
        simp [arcRange]; omega
      · have := h.tb j k _ h1
        simp [arcRange]; omega
      · have := h.db _ (List.mem_of_getElem? h1)
        simp [arcRange]; omega
  have hne : netErr (C.length + D.length + 2 : Nat) l = 0 := by
    unfold netErr
    rw [if_neg (by simp; omega), if_neg (by omega), ha]
  rw [endsErr, if_neg (by rw [hne]; simp), if_neg (by simp [isNode]; omega), if_neg (by omega)]
end
/-- prices that prove the least cost -/
structure Solved (C D : List Int) (tm : List (List Int)) (us vs : List Int) (T : Int) : Prop where
  ul : us.length = C.length
  vl : vs.length = D.length
  ub : ∀ x ∈ us, 0 ≤ x ∧ x ≤ 1000000000
  vb : ∀ x ∈ vs, 0 ≤ x ∧ x ≤ 2000000000
  feas : Feas 1 tm (fun j => us.getD j 0) (fun k => vs.getD k 0)
  val : dn D (fun k => vs.getD k 0) - dn C (fun j => us.getD j 0) = T
  max : DMax C D tm T
  tn : 0 ≤ T ∧ T ≤ 4000000000000
theorem solved_of {C D : List Int} {tm : List (List Int)} {i0 g0 last : Int} {l : List Arc} {on pots us vs : List Int} (h : Trans C D tm) (hN : NetOk (C.length + D.length + 2) l) (hP : Stand (C.length + D.length + 2) i0 g0 last C.length D.length) (h2 : Two l (colArcs g0 i0 C tm) (brArcs last g0 D))
    (hf : IsFlow (C.length + D.length + 2) l 0 last on D.sum) (ho : OptPot (potF pots) l on) (hz : potF pots 0 = 0) (hb : ∀ x : Int, 0 ≤ potF pots x ∧ potF pots x ≤ 1000000000)
    (hul : us.length = C.length) (hu : ∀ j, j < C.length → us.getD j 0 = potF pots (i0 + j)) (hvl : vs.length = D.length) (hv : ∀ k, k < D.length → ∃ found, VMin tm (fun j => us.getD j 0) k C.length (vs.getD k 0) found) : Solved C D tm us vs (costOf l on) := by
  have hn := net_nodes hP h.tab h2
  have hD := h.dsum
  have hcost : 0 ≤ costOf l on ∧ costOf l on ≤ 4000000000000 := by
    have h1 := costOf_bd hN hf.v l.length (Nat.le_refl _)
    rw [List.take_length, List.take_of_length_le (by rw [hf.v.len]; omega)] at h1
    have := hN.len
    omega
  have hub : ∀ x ∈ us, 0 ≤ x ∧ x ≤ 1000000000 := fun x hx => by
    obtain ⟨j, hj, rfl⟩ := List.mem_iff_getElem.1 hx
    have := hu j (by omega)
    have e : us.getD j 0 = us[j] := by simp [hj]
    rw [← e, this]; exact hb _
  have hu0 : ∀ j, 0 ≤ us.getD j 0 := fun j => by
    by_cases hj : j < us.length
    · have e : us.getD j 0 = us[j] := by simp [hj]
      rw [e]; exact (hub _ (List.getElem_mem hj)).1
    · simp [hj]
  -- every node that wants something is reached
  have hre : ∀ k, k < D.length → ∃ j x, tmAt tm j k = some x ∧ 0 ≤ x := fun k hk => Classical.byContradiction fun hc => by
    have hF : Feas 1 tm (fun _ => 0) (fun q => if q = k then (costOf l on + 1) else 0) := fun j q x hx hx0 => by
      by_cases hq : q = k
      · subst hq; exact absurd ⟨j, x, hx, hx0⟩ hc
      · simp only [hq, if_false]; omega
    have h3 := weak_price hP h.tab h2 hn hf (fun _ => Int.le_refl _) hF
    rw [dn_single D k _ hk] at h3
    have hz0 : dn C (fun _ => 0) = 0 := by
      have : ∀ D : List Int, dn D (fun _ => 0) = 0 := fun D => by induction D with | nil => rfl | cons a D ih => simp only [dn, ih]; omega
      exact this C
    rw [hz0] at h3
    have hd := h.db D[k] (List.getElem_mem hk)
    have h4 : 1 * (costOf l on + 1) ≤ D[k] * (costOf l on + 1) := Int.mul_le_mul_of_nonneg_right hd.1 (by omega)
    omega
  have hvk : ∀ k, k < D.length → (∃ j x, tmAt tm j k = some x ∧ 0 ≤ x ∧ vs.getD k 0 = x + us.getD j 0) ∧ ∀ j x, tmAt tm j k = some x → 0 ≤ x → vs.getD k 0 ≤ x + us.getD j 0 := fun k hk => by
    obtain ⟨found, hm⟩ := hv k hk
    cases found with
    | true =>
      obtain ⟨⟨j, x, a1, a2, a3, a4⟩, a5⟩ := hm
      exact ⟨⟨j, x, a2, a3, a4⟩, fun j y hy hy0 => a5 j y (h.tab.cols j k y hy).1 hy hy0⟩
    | false =>
      obtain ⟨_, a5⟩ := hm
      obtain ⟨j, x, b1, b2⟩ := hre k hk
      have := a5 j x (h.tab.cols j k x b1).1 b1
      omega
  have hF : Feas 1 tm (fun j => us.getD j 0) (fun k => vs.getD k 0) := fun j k x hx hx0 => by
    have := (hvk k (h.tab.cols j k x hx).2).2 j x hx hx0
    show vs.getD k 0 ≤ us.getD j 0 + 1 * x
    omega
  have hpk : ∀ k, k < D.length → potF pots (g0 + k) ≤ vs.getD k 0 := fun k hk => by
    obtain ⟨⟨j, x, a1, a2, a3⟩, _⟩ := hvk k hk
    have h3 := opt_feas hP h.tab h2 hn hf (by omega) ho a1 a2
    rw [a3, hu j (h.tab.cols j k x a1).1]; omega
  have h3 := strong_price hP h.tab h2 hn hf ho hz
  have h4 := dn_le (D := D) (u := fun k => potF pots (g0 + k)) (v := fun k => vs.getD k 0) (fun d hd => by have := h.db d hd; omega) hpk
  have h5 : dn C (fun j => potF pots (i0 + j)) = dn C (fun j => us.getD j 0) := dn_congr fun j hj => (hu j hj).symm
  have h6 := weak_price hP h.tab h2 hn hf hu0 hF
  have hval : dn D (fun k => vs.getD k 0) - dn C (fun j => us.getD j 0) = costOf l on := by omega
  refine ⟨hul, hvl, hub, fun x hx => ?_, hF, hval, ⟨⟨_, _, hu0, hF, hval⟩, fun u v h7 h8 => by have := weak_price hP h.tab h2 hn hf h7 h8; omega⟩, hcost⟩
  obtain ⟨k, hk, rfl⟩ := List.mem_iff_getElem.1 hx
  have e : vs.getD k 0 = vs[k] := by simp [hk]
  obtain ⟨⟨j, y, a1, a2, a3⟩, _⟩ := hvk k (by omega)
  have hj := (h.tab.cols j k y a1).1
  have := h.tb j k y a1
  have := hb (i0 + j)
  rw [← hu j hj] at this
  rw [← e, a3]; omega
end Go.Proofs.Ytgjfjbphngamgaa.Flo
