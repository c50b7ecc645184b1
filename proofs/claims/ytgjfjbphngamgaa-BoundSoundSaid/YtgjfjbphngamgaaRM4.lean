/-
  Plain: the chapter's example.
-/
import Derived.Test.YtgjfjbphngamgaaT20
set_option linter.all false
namespace Go.Proofs.Ytgjfjbphngamgaa
open Go Go.W Go.RowKit

def tab3 (a b c : Int) (v : Nat) : Int := if v = 0 then a else if v = 1 then b else c
end Go.Proofs.Ytgjfjbphngamgaa

/-
  Walks: the laws TruckChecks, TruckWalks, TruckFeasible.
-/
set_option linter.all false
namespace Go.Proofs.Ytgjfjbphngamgaa
open Go Go.W Go.RowKit

theorem ret_true {v : Value} {b : Bool} (h : v = .bool b) (hb : b = true) : Ending.returned v = .returned (.bool true) := by rw [h, hb]
/-- a night, as it lies in memory -/
structure NightAt (w : World) (A B C : Option Addr) (l : List Edg) (ts : List Truck) (ns : List Need) (cc : Nat) : Prop where
  l : EdgsAt w A l
  t : RowsAt 4 truckCells w B ts
  n : RowsAt 2 needCells w C ns
  c : ns.length ≤ cc
theorem NightAt.below {w w' : World} {A B C : Option Addr} {l : List Edg} {ts : List Truck} {ns : List Need} {cc : Nat} (h : NightAt w A B C l ts ns cc) (hb : Below w.heap.size w w') : NightAt w' A B C l ts ns cc := ⟨h.l.below hb, h.t.below hb, h.n.below hb, h.c⟩
theorem NightAt.sh {w w' : World} {A B C : Option Addr} {l : List Edg} {ts : List Truck} {ns : List Need} {cc : Nat} {L : List Blk} (h : NightAt w A B C l ts ns cc) (H : SH w [] w' L) : NightAt w' A B C l ts ns cc := h.below H.below

theorem fewB_ok {a b c : Nat} (h : fewB a b c = true) : a ≤ 600 ∧ b ≤ 20 ∧ c ≤ 30 := by
  unfold fewB at h
  simp only [Bool.and_eq_true, decide_eq_true_eq] at h
  omega
/-- routes as they lie in memory, of any number -/
structure RtsAt0 (w : World) (A : Option Addr) (rs : List Rt) : Prop where
  rows : RowsAt 2 rtCells w A rs
  ints : ∀ r ∈ rs, IntsAt w r.nd.A r.nd.l
  cap : ∀ r ∈ rs, r.nd.l.length ≤ r.nd.cap
end Go.Proofs.Ytgjfjbphngamgaa

/-
  The law TruckWalk.
-/
set_option linter.all false
namespace Go.Proofs.Ytgjfjbphngamgaa
open Go Go.W Go.RowKit

section
variable {D : Nat → Nat → Int} {cap hd : Int} {ns : List Need} {rn : List Int} {s0 : TS}
theorem goE_at (h : goE D cap hd ns rn s0 = 0) {j : Nat} (hj : j < rn.length) : visitE (goD D ns rn[j] (goT D hd ns (rn.take j) s0)) cap (needAt ns rn[j]) (goT D hd ns (rn.take j) s0) = 0 := by
  have h2 := goE_app D cap hd ns (rn.take j) (rn.drop j) s0
  rw [List.take_append_drop, h] at h2
  by_cases h3 : goE D cap hd ns (rn.take j) s0 = 0
  · rw [if_neg (by simp [h3]), List.drop_eq_getElem_cons hj] at h2
    simp only [goE] at h2
    by_cases h4 : visitE (goD D ns rn[j] (goT D hd ns (rn.take j) s0)) cap (needAt ns rn[j]) (goT D hd ns (rn.take j) s0) = 0
    · exact h4
    · rw [if_pos h4] at h2; exact h2.symm
  · rw [if_pos h3] at h2; exact absurd h2.symm h3
theorem goT_succ {j : Nat} (hj : j < rn.length) : goT D hd ns (rn.take (j + 1)) s0 = visitT (goD D ns rn[j] (goT D hd ns (rn.take j) s0)) hd (needAt ns rn[j]) (goT D hd ns (rn.take j) s0) := by
  rw [List.take_succ_eq_append_getElem hj, goT_app]; rfl
end
/-- everything known of a walk that ends well -/
structure WalkOk (m q : Nat) (l : List Edg) (ts : List Truck) (ns : List Need) (hd : Int) (rn : List Int) (t : Truck) : Prop where
  night : NightOk m l ts ns hd
  hq : q < ts.length
  ht : ts[q]? = some t
  tr : (0 ≤ t.depot ∧ t.depot < m) ∧ (1 ≤ t.cap ∧ t.cap ≤ 32) ∧ 0 ≤ t.from_ ∧ t.from_ ≤ t.to_ ∧ t.to_ ≤ 86400
  hr : ∀ i ∈ rn, 0 ≤ i ∧ i < ns.length
  nd : rn.Nodup
  go : goE (roadD m l) t.cap hd ns rn (startT t) = 0
  home : homeE (roadT m l (goT (roadD m l) hd ns rn (startT t)).at_ t.depot.toNat) hd t (goT (roadD m l) hd ns rn (startT t)) = 0
  V : outV m l ts ns hd q rn = goV (roadD m l) hd ns rn (startT t)
  B : outB' m l ts ns hd q rn = (goT (roadD m l) hd ns rn (startT t)).now + roadT m l (goT (roadD m l) hd ns rn (startT t)).at_ t.depot.toNat + (goT (roadD m l) hd ns rn (startT t)).load * hd
  D : outD m l ts ns hd q rn = (goT (roadD m l) hd ns rn (startT t)).driven + roadT m l (goT (roadD m l) hd ns rn (startT t)).at_ t.depot.toNat
theorem walkOk_of {n hd rt : Int} {l : List Edg} {ts : List Truck} {ns : List Need} {rn : List Int} (h : walkE n l ts ns hd rt rn = 0) : ∃ (m q : Nat) (t : Truck), n = m ∧ rt = q ∧ WalkOk m q l ts ns hd rn t := by
  obtain ⟨h1, h2⟩ := walkE_route h
  obtain ⟨m, rfl, hN⟩ := nightOk_of h1
  obtain ⟨hrt, hrr, hrd, _⟩ := routeOk_of h2
  obtain ⟨q, rfl⟩ := Int.eq_ofNat_of_zero_le hrt.1
  have hq : q < ts.length := by omega
  have hgt : ts.getD (q : Int).toNat default = ts[q] := by simp [hq]
  have h3 := h
  rw [walkE, if_neg (by simp [h1]), if_neg (by simp [h2])] at h3
  unfold endT at h3
  rw [hgt] at h3
  have hgo : goE (roadD m l) ts[q].cap hd ns rn (startT ts[q]) = 0 := by
    by_cases h4 : goE (roadD m l) ts[q].cap hd ns rn (startT ts[q]) = 0
    · exact h4
    · rw [if_pos h4] at h3; exact h3
  rw [if_neg (by simp [hgo])] at h3
  refine ⟨m, q, ts[q], rfl, rfl, hN, hq, by simp [hq], hN.tr _ (List.getElem_mem hq), hrr, hrd, hgo, by simpa [roadD] using h3, ?_, ?_, ?_⟩
  · rw [outV, if_pos h, walkV, hgt]
  · rw [outB', if_pos h, walkT, endT, hgt]; simp [homeT, roadD]
  · rw [outD, if_pos h, walkT, endT, hgt]; simp [homeT, roadD]
theorem WalkOk.ts {m q : Nat} {l : List Edg} {ts : List Truck} {ns : List Need} {hd : Int} {rn : List Int} {t : Truck} (h : WalkOk m q l ts ns hd rn t) : ∀ (j : Nat), j ≤ rn.length → TSOk m t.cap j (goT (roadD m l) hd ns (rn.take j) (startT t))
  | 0, _ => by rw [List.take_zero]; exact TSOk.start h.tr
  | j + 1, hj => by
    have hlt : j < rn.length := by omega
    have ih := h.ts j (by omega)
    have hv := goE_at h.go hlt
    obtain ⟨hi0, hi1⟩ := h.hr rn[j] (List.getElem_mem hlt)
    obtain ⟨ni, hni⟩ := Int.eq_ofNat_of_zero_le hi0
    have hnl : ni < ns.length := by omega
    have hna : needAt ns rn[j] = ns[ni] := by rw [hni]; simp [needAt, hnl]
    rw [goT_succ hlt]
    unfold goD roadD at hv ⊢
    rw [hna] at hv ⊢
    simp only [Int.toNat_natCast] at hv ⊢
    exact ih.step h.night.road (h.night.nd ns[ni] (List.getElem_mem hnl)) h.night.hh hv
end Go.Proofs.Ytgjfjbphngamgaa

/-
  The law TruckBegins.
-/
set_option linter.all false
namespace Go.Proofs.Ytgjfjbphngamgaa
open Go Go.W Go.RowKit

theorem RD.tri {n a b : Nat} {l : List Edg} {K K' : Nat → Bool} {D D' : Nat → Int} (h : RoadOk n l) (h1 : RD l n a K D) (h2 : RD l n b K' D') (hb : b < n) (hk : K b = true) : ∀ v, v < n → K' v = true → K v = true ∧ D v ≤ D b + D' v := by
  have key : ∀ (m : Nat) (v : Nat), v < n → K' v = true → D' v ≤ m → K v = true ∧ D v ≤ D b + D' v := by
    intro m
    induction m with
    | zero =>
      intro v hv hk' hm
      by_cases hvs : v = b
      · subst hvs; exact ⟨hk, by rw [h2.src.2]; omega⟩
      · obtain ⟨u, i, w, hu, hku, hE, hd⟩ := h2.par v hv hk' hvs
        have := h2.nn u hu hku
        have := hE.pos h
        omega
    | succ m ih =>
      intro v hv hk' hm
      by_cases hvs : v = b
      · subst hvs; exact ⟨hk, by rw [h2.src.2]; omega⟩
      · obtain ⟨u, i, w, hu, hku, hE, hd⟩ := h2.par v hv hk' hvs
        have hp := hE.pos h
        obtain ⟨q1, q2⟩ := ih u hu hku (by omega)
        obtain ⟨q3, q4⟩ := h1.clo i u v w hE hu hv q1
        exact ⟨q3, by omega⟩
  intro v hv hk'
  exact key (D' v).toNat v hv hk' (by omega)
theorem roadT_nn {n s v : Nat} {l : List Edg} {K : Nat → Bool} {D : Nat → Int} (hok : RoadOk n l) (hR : RD l n s K D) (hv : v < n) (h : 0 ≤ roadT n l s v) : K v = true ∧ roadT n l s v = D v := by
  rw [roadT_eq hok hR hv] at h ⊢
  cases hk : K v with
  | true => simp
  | false => rw [hk] at h; simp at h
theorem roadT_tri {n a b c : Nat} {l : List Edg} (hok : RoadOk n l) (ha : a < n) (hb : b < n) (hc : c < n) (h1 : 0 ≤ roadT n l a b) (h2 : 0 ≤ roadT n l b c) : 0 ≤ roadT n l a c ∧ roadT n l a c ≤ roadT n l a b + roadT n l b c := by
  obtain ⟨K, D, hR⟩ := rd_exists hok ha
  obtain ⟨K', D', hR'⟩ := rd_exists hok hb
  obtain ⟨k1, e1⟩ := roadT_nn hok hR hb h1
  obtain ⟨k2, e2⟩ := roadT_nn hok hR' hc h2
  obtain ⟨k3, h3⟩ := hR.tri hok hR' hb k1 c hc k2
  have e3 : roadT n l a c = D c := by rw [roadT_eq hok hR hc, if_pos k3]
  rw [e1, e2, e3]
  exact ⟨hR.nn c hc k3, h3⟩
section
variable {m q : Nat} {l : List Edg} {ts : List Truck} {ns : List Need} {hd : Int} {rn : List Int} {t : Truck}
end
end Go.Proofs.Ytgjfjbphngamgaa

/-
  The law TruckServes.
-/
set_option linter.all false
namespace Go.Proofs.Ytgjfjbphngamgaa
open Go Go.W Go.RowKit

structure PlanOk (n : Int) (l : List Edg) (ts : List Truck) (ns : List Need) (hd : Int) (rs : List Rt) (left : List Int) : Prop where
  night : nightErr n l ts ns hd = 0
  walks : ∀ i (hi : i < rs.length), walkE n l ts ns hd rs[i].trk rs[i].nd.l = 0
  trk : (rs.map (·.trk)).Nodup
  nd : (allN rs ++ left).Nodup
  good : goodAll ns.length (allN rs ++ left) = true
  sorted : sortedB left = true
theorem routesE_ok {n : Int} {l : List Edg} {ts : List Truck} {ns : List Need} {hd : Int} : ∀ {rs : List Rt}, routesE n l ts ns hd rs = 0 → ∀ i (hi : i < rs.length), walkE n l ts ns hd rs[i].trk rs[i].nd.l = 0
  | [], _, i, hi => by simp at hi
  | r :: rs, h, i, hi => by
    rw [routesE] at h
    have h0 : walkE n l ts ns hd r.trk r.nd.l = 0 := by
      by_cases h1 : walkE n l ts ns hd r.trk r.nd.l = 0
      · exact h1
      · rw [if_pos h1] at h; exact h
    rw [if_neg (by simp [h0])] at h
    cases i with
    | zero => exact h0
    | succ i => exact routesE_ok h i (by simpa using hi)
theorem planOk_of {n : Int} {l : List Edg} {ts : List Truck} {ns : List Need} {hd : Int} {rs : List Rt} {left : List Int} (h : planErr n l ts ns hd rs left = 0) : PlanOk n l ts ns hd rs left := by
  unfold planErr at h
  split at h
  · rename_i h1; exact absurd h h1
  · rename_i h1
    split at h
    · rename_i h2; exact absurd h h2
    · rename_i h2
      split at h
      · cases h
      · rename_i h3
        split at h
        · rename_i h4
          split at h
          · rename_i h5
            have h3' : twiceB (rs.map (·.trk)) = false ∧ twiceB (allN rs ++ left) = false := by simpa using h3
            exact ⟨by simpa using h1, routesE_ok (by simpa using h2), by simpa [twiceB] using h3'.1, by simpa [twiceB] using h3'.2, h4, h5⟩
          · cases h
        · cases h
end Go.Proofs.Ytgjfjbphngamgaa
