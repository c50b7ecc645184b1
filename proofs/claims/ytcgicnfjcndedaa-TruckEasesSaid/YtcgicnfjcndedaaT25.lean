/-
  The law TruckWalk.
-/
import Derived.Test.YtcgicnfjcndedaaT24
set_option linter.all false
namespace Go.Proofs.Ytcgicnfjcndedaa
open Go Go.W Go.RowKit

section
variable {D : Nat → Nat → Int} {cap hd : Int} {ns : List Need} {rn : List Int} {s0 : TS}
theorem goE_at (h : goE D cap hd ns rn s0 = 0) {j : Nat} (hj : j < rn.length) : visitE (goD D ns rn[j] (goT D hd ns (rn.take j) s0)) cap (needAt ns rn[j]) (goT D hd ns (rn.take j) s0) = 0 := by
  have h2 := goE_app D cap hd ns (rn.take j) (rn.drop j) s0
  rw [List.take_append_drop, h] at h2
  by_cases h3 : goE D cap hd ns (rn.take j) s0 = 0
  · rw [if_neg (by simp [h3]), List.drop_eq_getElem_cons hj] at h2
    simp only [goE] at h2
    by_cases h4 : visitE (goD D ns rn[j] (goT D hd ns (rn.take j) s0)) cap (needAt ns rn[j]) (goT D hd ns (rn.take j) s0) = 0
    · exact h4
    · rw [if_pos h4] at h2; exact h2.symm
  · rw [if_pos h3] at h2; exact absurd h2.symm h3
theorem goE_take (h : goE D cap hd ns rn s0 = 0) (j : Nat) : goE D cap hd ns (rn.take j) s0 = 0 := by
  have h2 := goE_app D cap hd ns (rn.take j) (rn.drop j) s0
  rw [List.take_append_drop, h] at h2
  by_cases h3 : goE D cap hd ns (rn.take j) s0 = 0
  · exact h3
  · rw [if_pos h3] at h2; exact absurd h2.symm h3
theorem goT_succ {j : Nat} (hj : j < rn.length) : goT D hd ns (rn.take (j + 1)) s0 = visitT (goD D ns rn[j] (goT D hd ns (rn.take j) s0)) hd (needAt ns rn[j]) (goT D hd ns (rn.take j) s0) := by
  rw [List.take_succ_eq_append_getElem hj, goT_app]; rfl
theorem goV_at {j : Nat} (hj : j < (goV D hd ns rn s0).length) (hj2 : j < rn.length) : (goV D hd ns rn s0)[j] = visitV (goD D ns rn[j] (goT D hd ns (rn.take j) s0)) hd rn[j] (needAt ns rn[j]) (goT D hd ns (rn.take j) s0) := by
  have h2 := goV_app D hd ns (rn.take j) (rn.drop j) s0
  rw [List.take_append_drop] at h2
  have h3 : (goV D hd ns (rn.take j) s0).length = j := by rw [goV_len]; simp; omega
  simp only [h2]
  rw [List.getElem_append_right (by omega)]
  simp only [h3, Nat.sub_self, List.drop_eq_getElem_cons hj2, goV, List.getElem_cons_zero]
end
/-- what has been collected -/
def colL (ns : List Need) (rn : List Int) : Int := (rn.map fun i => if 0 < (needAt ns i).move then (needAt ns i).move else 0).sum
theorem colL_succ {ns : List Need} {rn : List Int} {j : Nat} (hj : j < rn.length) : colL ns (rn.take (j + 1)) = colL ns (rn.take j) + if 0 < (needAt ns rn[j]).move then (needAt ns rn[j]).move else 0 := by
  rw [List.take_succ_eq_append_getElem hj]; unfold colL; rw [List.map_append, List.sum_append, List.map_cons, List.map_nil, List.sum_cons, List.sum_nil, Int.add_zero]
/-- everything known of a walk that ends well -/
structure WalkOk (m q : Nat) (l : List Edg) (ts : List Truck) (ns : List Need) (hd : Int) (rn : List Int) (t : Truck) : Prop where
  night : NightOk m l ts ns hd
  hq : q < ts.length
  ht : ts[q]? = some t
  tr : (0 ≤ t.depot ∧ t.depot < m) ∧ (1 ≤ t.cap ∧ t.cap ≤ 32) ∧ 0 ≤ t.from_ ∧ t.from_ ≤ t.to_ ∧ t.to_ ≤ 86400
  hr : ∀ i ∈ rn, 0 ≤ i ∧ i < ns.length
  nd : rn.Nodup
  go : goE (roadD m l) t.cap hd ns rn (startT t) = 0
  home : homeE (roadT m l (goT (roadD m l) hd ns rn (startT t)).at_ t.depot.toNat) hd t (goT (roadD m l) hd ns rn (startT t)) = 0
  V : outV m l ts ns hd q rn = goV (roadD m l) hd ns rn (startT t)
  B : outB' m l ts ns hd q rn = (goT (roadD m l) hd ns rn (startT t)).now + roadT m l (goT (roadD m l) hd ns rn (startT t)).at_ t.depot.toNat + (goT (roadD m l) hd ns rn (startT t)).load * hd
  D : outD m l ts ns hd q rn = (goT (roadD m l) hd ns rn (startT t)).driven + roadT m l (goT (roadD m l) hd ns rn (startT t)).at_ t.depot.toNat
theorem walkOk_of {n hd rt : Int} {l : List Edg} {ts : List Truck} {ns : List Need} {rn : List Int} (h : walkE n l ts ns hd rt rn = 0) : ∃ (m q : Nat) (t : Truck), n = m ∧ rt = q ∧ WalkOk m q l ts ns hd rn t := by
  obtain ⟨h1, h2⟩ := walkE_route h
  obtain ⟨m, rfl, hN⟩ := nightOk_of h1
  obtain ⟨hrt, hrr, hrd, _⟩ := routeOk_of h2
  obtain ⟨q, rfl⟩ := Int.eq_ofNat_of_zero_le hrt.1
  have hq : q < ts.length := by omega
  have hgt : ts.getD (q : Int).toNat default = ts[q] := by simp [hq]
  have h3 := h
  rw [walkE, if_neg (by simp [h1]), if_neg (by simp [h2])] at h3
  unfold endT at h3
  rw [hgt] at h3
  have hgo : goE (roadD m l) ts[q].cap hd ns rn (startT ts[q]) = 0 := by
    by_cases h4 : goE (roadD m l) ts[q].cap hd ns rn (startT ts[q]) = 0
    · exact h4
    · rw [if_pos h4] at h3; exact h3
  rw [if_neg (by simp [hgo])] at h3
  refine ⟨m, q, ts[q], rfl, rfl, hN, hq, by simp [hq], hN.tr _ (List.getElem_mem hq), hrr, hrd, hgo, by simpa [roadD] using h3, ?_, ?_, ?_⟩
  · rw [outV, if_pos h, walkV, hgt]
  · rw [outB', if_pos h, walkT, endT, hgt]; simp [homeT, roadD]
  · rw [outD, if_pos h, walkT, endT, hgt]; simp [homeT, roadD]
theorem WalkOk.ts {m q : Nat} {l : List Edg} {ts : List Truck} {ns : List Need} {hd : Int} {rn : List Int} {t : Truck} (h : WalkOk m q l ts ns hd rn t) : ∀ (j : Nat), j ≤ rn.length → TSOk m t.cap j (goT (roadD m l) hd ns (rn.take j) (startT t))
  | 0, _ => by rw [List.take_zero]; exact TSOk.start h.tr
  | j + 1, hj => by
    have hlt : j < rn.length := by omega
    have ih := h.ts j (by omega)
    have hv := goE_at h.go hlt
    obtain ⟨hi0, hi1⟩ := h.hr rn[j] (List.getElem_mem hlt)
    obtain ⟨ni, hni⟩ := Int.eq_ofNat_of_zero_le hi0
    have hnl : ni < ns.length := by omega
    have hna : needAt ns rn[j] = ns[ni] := by rw [hni]; simp [needAt, hnl]
    rw [goT_succ hlt]
    unfold goD roadD at hv ⊢
    rw [hna] at hv ⊢
    simp only [Int.toNat_natCast] at hv ⊢
    exact ih.step h.night.road (h.night.nd ns[ni] (List.getElem_mem hnl)) h.night.hh hv
theorem absI_eq (z : Int) : absI z = 2 * (if 0 < z then z else 0) - z := by unfold absI; split <;> split <;> omega
/-- the time goes to driving and to handling -/
theorem WalkOk.time {m q : Nat} {l : List Edg} {ts : List Truck} {ns : List Need} {hd : Int} {rn : List Int} {t : Truck} (_h : WalkOk m q l ts ns hd rn t) : ∀ (j : Nat), j ≤ rn.length →
    (goT (roadD m l) hd ns (rn.take j) (startT t)).now = t.from_ + (goT (roadD m l) hd ns (rn.take j) (startT t)).driven + (2 * colL ns (rn.take j) - (goT (roadD m l) hd ns (rn.take j) (startT t)).load) * hd
  | 0, _ => by simp [goT, startT, colL]
  | j + 1, hj => by
    have hlt : j < rn.length := by omega
    have ih := _h.time j (by omega)
    rw [goT_succ hlt, colL_succ hlt]
    generalize goT (roadD m l) hd ns (rn.take j) (startT t) = s at *
    generalize goD (roadD m l) ns rn[j] s = d
    generalize (needAt ns rn[j]) = x
    simp only [visitT]
    rw [ih, absI_eq]
    generalize (if 0 < x.move then x.move else 0) = y
    simp only [Int.sub_mul, Int.add_mul, Int.mul_add]
    have e1 : 2 * y * hd = 2 * (y * hd) := Int.mul_assoc _ _ _
    have e2 : 2 * colL ns (rn.take j) * hd = 2 * (colL ns (rn.take j) * hd) := Int.mul_assoc _ _ _
    rw [e1, e2]
    omega
theorem colL_bd {m q : Nat} {l : List Edg} {ts : List Truck} {ns : List Need} {hd : Int} {rn : List Int} {t : Truck} (h : WalkOk m q l ts ns hd rn t) : ∀ (j : Nat), j ≤ rn.length → 0 ≤ colL ns (rn.take j) ∧ colL ns (rn.take j) ≤ 32 * j
  | 0, _ => by simp [colL]
  | j + 1, hj => by
    have hlt : j < rn.length := by omega
    have ih := colL_bd h j (by omega)
    obtain ⟨hi0, hi1⟩ := h.hr rn[j] (List.getElem_mem hlt)
    obtain ⟨ni, hni⟩ := Int.eq_ofNat_of_zero_le hi0
    have hnl : ni < ns.length := by omega
    have hna : needAt ns rn[j] = ns[ni] := by rw [hni]; simp [needAt, hnl]
    have := h.night.nd ns[ni] (List.getElem_mem hnl)
    rw [colL_succ hlt, hna]
    split <;> omega
end Go.Proofs.Ytcgicnfjcndedaa
