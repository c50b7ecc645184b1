/-
  Plain: the chapter's example.
-/
import Derived.Test.YtgjfjbphngamgaaT20
set_option linter.all false
namespace Go.Proofs.Ytgjfjbphngamgaa
open Go Go.W Go.RowKit

def exL : List Edg := [⟨0, 1, 100⟩, ⟨1, 0, 100⟩, ⟨1, 2, 60⟩, ⟨2, 1, 60⟩, ⟨0, 2, 200⟩, ⟨2, 0, 200⟩]
def exT : List Truck := [⟨0, 10, 1000, 2000⟩]
def exN : List Need := [⟨1, 8⟩, ⟨2, -5⟩]
def exV : List Vis := [⟨0, 1100, 1180, 8⟩, ⟨1, 1240, 1290, 3⟩]
theorem exNight : nightErr 3 exL exT exN 10 = 0 := by decide
theorem exRoad : RoadOk 3 exL := by
  obtain ⟨m, hm, hN⟩ := nightOk_of exNight
  obtain rfl : m = 3 := by omega
  exact hN.road
theorem exEdge {i u v : Nat} {w : Int} (h : EdgeAt exL i u v w) : (u = 0 ∧ v = 1 ∧ w = 100) ∨ (u = 1 ∧ v = 0 ∧ w = 100) ∨ (u = 1 ∧ v = 2 ∧ w = 60) ∨ (u = 2 ∧ v = 1 ∧ w = 60) ∨ (u = 0 ∧ v = 2 ∧ w = 200) ∨ (u = 2 ∧ v = 0 ∧ w = 200) := by
  obtain ⟨hi, h1, h2, h3⟩ := h
  have hi6 : i < 6 := hi
  match i, hi6, hi, h1, h2, h3 with
  | 0, _, _, h1, h2, h3 => have h1 : (0 : Int) = u := h1; have h2 : (1 : Int) = v := h2; have h3 : (100 : Int) = w := h3; omega
  | 1, _, _, h1, h2, h3 => have h1 : (1 : Int) = u := h1; have h2 : (0 : Int) = v := h2; have h3 : (100 : Int) = w := h3; omega
  | 2, _, _, h1, h2, h3 => have h1 : (1 : Int) = u := h1; have h2 : (2 : Int) = v := h2; have h3 : (60 : Int) = w := h3; omega
  | 3, _, _, h1, h2, h3 => have h1 : (2 : Int) = u := h1; have h2 : (1 : Int) = v := h2; have h3 : (60 : Int) = w := h3; omega
  | 4, _, _, h1, h2, h3 => have h1 : (0 : Int) = u := h1; have h2 : (2 : Int) = v := h2; have h3 : (200 : Int) = w := h3; omega
  | 5, _, _, h1, h2, h3 => have h1 : (2 : Int) = u := h1; have h2 : (0 : Int) = v := h2; have h3 : (200 : Int) = w := h3; omega
def tab3 (a b c : Int) (v : Nat) : Int := if v = 0 then a else if v = 1 then b else c
theorem exRD {s : Nat} {a b c : Int} (h0 : tab3 a b c s = 0) (ha : 0 ≤ a) (hb : 0 ≤ b) (hc : 0 ≤ c) (hclo : b ≤ a + 100 ∧ a ≤ b + 100 ∧ c ≤ b + 60 ∧ b ≤ c + 60 ∧ c ≤ a + 200 ∧ a ≤ c + 200)
    (hpar : ∀ v, v < 3 → v ≠ s → ∃ u i w, u < 3 ∧ EdgeAt exL i u v w ∧ tab3 a b c v = tab3 a b c u + w) : RD exL 3 s (fun _ => true) (tab3 a b c) where
  src := ⟨rfl, h0⟩
  clo i u v w hE _ _ _ := by
    refine ⟨rfl, ?_⟩
    rcases exEdge hE with ⟨rfl, rfl, rfl⟩ | ⟨rfl, rfl, rfl⟩ | ⟨rfl, rfl, rfl⟩ | ⟨rfl, rfl, rfl⟩ | ⟨rfl, rfl, rfl⟩ | ⟨rfl, rfl, rfl⟩ <;> simp [tab3] <;> omega
  par v hv _ hvs := by
    obtain ⟨u, i, w, h1, h2, h3⟩ := hpar v hv hvs
    exact ⟨u, i, w, h1, rfl, h2, h3⟩
  nn v _ _ := by unfold tab3; split <;> (try split) <;> omega
theorem exRD0 : RD exL 3 0 (fun _ => true) (tab3 0 100 160) := exRD rfl (by omega) (by omega) (by omega) (by omega) fun v hv hne => by
  rcases (show v = 1 ∨ v = 2 by omega) with rfl | rfl
  · exact ⟨0, 0, 100, by omega, ⟨by decide, rfl, rfl, rfl⟩, rfl⟩
  · exact ⟨1, 2, 60, by omega, ⟨by decide, rfl, rfl, rfl⟩, rfl⟩
theorem exRD1 : RD exL 3 1 (fun _ => true) (tab3 100 0 60) := exRD rfl (by omega) (by omega) (by omega) (by omega) fun v hv hne => by
  rcases (show v = 0 ∨ v = 2 by omega) with rfl | rfl
  · exact ⟨1, 1, 100, by omega, ⟨by decide, rfl, rfl, rfl⟩, rfl⟩
  · exact ⟨1, 2, 60, by omega, ⟨by decide, rfl, rfl, rfl⟩, rfl⟩
theorem exRD2 : RD exL 3 2 (fun _ => true) (tab3 160 60 0) := exRD rfl (by omega) (by omega) (by omega) (by omega) fun v hv hne => by
  rcases (show v = 0 ∨ v = 1 by omega) with rfl | rfl
  · exact ⟨1, 1, 100, by omega, ⟨by decide, rfl, rfl, rfl⟩, rfl⟩
  · exact ⟨2, 3, 60, by omega, ⟨by decide, rfl, rfl, rfl⟩, rfl⟩
theorem ex01 : roadT 3 exL 0 1 = 100 := by rw [roadT_eq exRoad exRD0 (by omega)]; rfl
theorem ex02 : roadT 3 exL 0 2 = 160 := by rw [roadT_eq exRoad exRD0 (by omega)]; rfl
theorem ex10 : roadT 3 exL 1 0 = 100 := by rw [roadT_eq exRoad exRD1 (by omega)]; rfl
theorem ex12 : roadT 3 exL 1 2 = 60 := by rw [roadT_eq exRoad exRD1 (by omega)]; rfl
theorem ex20 : roadT 3 exL 2 0 = 160 := by rw [roadT_eq exRoad exRD2 (by omega)]; rfl
theorem exE1 : walkE 3 exL exT exN 10 0 [0, 1] = 0 := by
  rw [walkE, if_neg (by rw [exNight]; decide), if_neg (by decide)]
  simp [endT, goE, goT, goD, roadD, needAt, visitE, visitT, inB, startT, homeE, exN, exT, ex01, ex12, ex20, absI]
theorem exO1 : outV 3 exL exT exN 10 0 [0, 1] = exV := by
  rw [outV, if_pos exE1]
  simp [walkV, goV, goD, roadD, needAt, visitV, visitT, startT, exN, exT, ex01, ex12, absI, exV]
theorem exB1 : outB' 3 exL exT exN 10 0 [0, 1] = 1480 := by
  rw [outB', if_pos exE1]
  simp [walkT, endT, goT, goD, roadD, needAt, visitT, startT, homeT, exN, exT, ex01, ex12, ex20, absI]
theorem exD1 : outD 3 exL exT exN 10 0 [0, 1] = 320 := by
  rw [outD, if_pos exE1]
  simp [walkT, endT, goT, goD, roadD, needAt, visitT, startT, homeT, exN, exT, ex01, ex12, ex20, absI]
theorem exE2 : walkE 3 exL exT exN 10 0 [1, 0] = 24 := by
  rw [walkE, if_neg (by rw [exNight]; decide), if_neg (by decide)]
  simp [goE, goD, roadD, needAt, visitE, inB, startT, exN, exT, ex02]
theorem exE3 : walkE 3 exL exT exN 10 0 [0, 0] = 6 := by
  rw [walkE, if_neg (by rw [exNight]; decide), if_pos (by decide)]
  decide
theorem exE4 : walkE 3 exL exT exN 10 0 [0] = 0 := by
  rw [walkE, if_neg (by rw [exNight]; decide), if_neg (by decide)]
  simp [endT, goE, goT, goD, roadD, needAt, visitE, visitT, inB, startT, homeE, exN, exT, ex01, ex10, absI]
theorem exP1 (A : Option Addr) : planErr 3 exL exT exN 10 [⟨0, ⟨A, 1, [0]⟩⟩] [1] = 0 := by
  rw [planErr, if_neg (by rw [exNight]; decide), if_neg (by simp [routesE, exE4])]
  exact (by decide : (if (twiceB [(0 : Int)] || twiceB [0, 1]) = true then (6 : Int) else if goodAll 2 [0, 1] = true then (if sortedB [1] = true then 0 else 9) else 7) = 0)
theorem exP2 : planErr 3 exL exT exN 10 [] [1] = 7 := by
  rw [planErr, if_neg (by rw [exNight]; decide), if_neg (by simp [routesE])]
  decide
end Go.Proofs.Ytgjfjbphngamgaa

/-
  Walks: the laws TruckChecks, TruckWalks, TruckFeasible.
-/
set_option linter.all false
namespace Go.Proofs.Ytgjfjbphngamgaa
open Go Go.W Go.RowKit

theorem ret_true {v : Value} {b : Bool} (h : v = .bool b) (hb : b = true) : Ending.returned v = .returned (.bool true) := by rw [h, hb]
/-- a night, as it lies in memory -/
structure NightAt (w : World) (A B C : Option Addr) (l : List Edg) (ts : List Truck) (ns : List Need) (cc : Nat) : Prop where
  l : EdgsAt w A l
  t : RowsAt 4 truckCells w B ts
  n : RowsAt 2 needCells w C ns
  c : ns.length ≤ cc
theorem NightAt.below {w w' : World} {A B C : Option Addr} {l : List Edg} {ts : List Truck} {ns : List Need} {cc : Nat} (h : NightAt w A B C l ts ns cc) (hb : Below w.heap.size w w') : NightAt w' A B C l ts ns cc := ⟨h.l.below hb, h.t.below hb, h.n.below hb, h.c⟩
theorem NightAt.sh {w w' : World} {A B C : Option Addr} {l : List Edg} {ts : List Truck} {ns : List Need} {cc : Nat} {L : List Blk} (h : NightAt w A B C l ts ns cc) (H : SH w [] w' L) : NightAt w' A B C l ts ns cc := h.below H.below

theorem smallB_ok {rs : List Rt} {left : List Int} (h : smallB rs left = true) : rs.length ≤ 12 ∧ left.length ≤ 40 ∧ ∀ r ∈ rs, r.nd.l.length ≤ 30 := by
  unfold smallB at h
  simp only [Bool.and_eq_true, Bool.not_eq_true', Bool.or_eq_false_iff, decide_eq_false_iff_not, List.all_eq_true, decide_eq_true_eq] at h
  exact ⟨by omega, by omega, h.2⟩
theorem fewB_ok {a b c : Nat} (h : fewB a b c = true) : a ≤ 600 ∧ b ≤ 20 ∧ c ≤ 30 := by
  unfold fewB at h
  simp only [Bool.and_eq_true, decide_eq_true_eq] at h
  omega
/-- routes as they lie in memory, of any number -/
structure RtsAt0 (w : World) (A : Option Addr) (rs : List Rt) : Prop where
  rows : RowsAt 2 rtCells w A rs
  ints : ∀ r ∈ rs, IntsAt w r.nd.A r.nd.l
  cap : ∀ r ∈ rs, r.nd.l.length ≤ r.nd.cap
theorem RtsAt0.few {w : World} {A : Option Addr} {rs : List Rt} (h : RtsAt0 w A rs) {left : List Int} (hs : smallB rs left = true) : RtsAt w A rs :=
  ⟨h.rows, h.ints, h.cap, fun r hr => by have := (smallB_ok hs).2.2 r hr; omega, by have := (smallB_ok hs).1; omega⟩
end Go.Proofs.Ytgjfjbphngamgaa

/-
  The law TruckBegins.
-/
set_option linter.all false
namespace Go.Proofs.Ytgjfjbphngamgaa
open Go Go.W Go.RowKit

theorem RD.tri {n a b : Nat} {l : List Edg} {K K' : Nat → Bool} {D D' : Nat → Int} (h : RoadOk n l) (h1 : RD l n a K D) (h2 : RD l n b K' D') (hb : b < n) (hk : K b = true) : ∀ v, v < n → K' v = true → K v = true ∧ D v ≤ D b + D' v := by
  have key : ∀ (m : Nat) (v : Nat), v < n → K' v = true → D' v ≤ m → K v = true ∧ D v ≤ D b + D' v := by
    intro m
    induction m with
    | zero =>
      intro v hv hk' hm
      by_cases hvs : v = b
      · subst hvs; exact ⟨hk, by rw [h2.src.2]; omega⟩
      · obtain ⟨u, i, w, hu, hku, hE, hd⟩ := h2.par v hv hk' hvs
        have := h2.nn u hu hku
        have := hE.pos h
        omega
    | succ m ih =>
      intro v hv hk' hm
      by_cases hvs : v = b
      · subst hvs; exact ⟨hk, by rw [h2.src.2]; omega⟩
      · obtain ⟨u, i, w, hu, hku, hE, hd⟩ := h2.par v hv hk' hvs
        have hp := hE.pos h
        obtain ⟨q1, q2⟩ := ih u hu hku (by omega)
        obtain ⟨q3, q4⟩ := h1.clo i u v w hE hu hv q1
        exact ⟨q3, by omega⟩
  intro v hv hk'
  exact key (D' v).toNat v hv hk' (by omega)
theorem roadT_nn {n s v : Nat} {l : List Edg} {K : Nat → Bool} {D : Nat → Int} (hok : RoadOk n l) (hR : RD l n s K D) (hv : v < n) (h : 0 ≤ roadT n l s v) : K v = true ∧ roadT n l s v = D v := by
  rw [roadT_eq hok hR hv] at h ⊢
  cases hk : K v with
  | true => simp
  | false => rw [hk] at h; simp at h
theorem roadT_tri {n a b c : Nat} {l : List Edg} (hok : RoadOk n l) (ha : a < n) (hb : b < n) (hc : c < n) (h1 : 0 ≤ roadT n l a b) (h2 : 0 ≤ roadT n l b c) : 0 ≤ roadT n l a c ∧ roadT n l a c ≤ roadT n l a b + roadT n l b c := by
  obtain ⟨K, D, hR⟩ := rd_exists hok ha
  obtain ⟨K', D', hR'⟩ := rd_exists hok hb
  obtain ⟨k1, e1⟩ := roadT_nn hok hR hb h1
  obtain ⟨k2, e2⟩ := roadT_nn hok hR' hc h2
  obtain ⟨k3, h3⟩ := hR.tri hok hR' hb k1 c hc k2
  have e3 : roadT n l a c = D c := by rw [roadT_eq hok hR hc, if_pos k3]
  rw [e1, e2, e3]
  exact ⟨hR.nn c hc k3, h3⟩
section
variable {m q : Nat} {l : List Edg} {ts : List Truck} {ns : List Need} {hd : Int} {rn : List Int} {t : Truck}
/-- from any state of a good walk the depot can be reached, in time -/
theorem WalkOk.back (h : WalkOk m q l ts ns hd rn t) : ∀ (k j : Nat), j + k = rn.length → 0 ≤ roadT m l (goT (roadD m l) hd ns (rn.take j) (startT t)).at_ t.depot.toNat ∧
    (goT (roadD m l) hd ns (rn.take j) (startT t)).now + roadT m l (goT (roadD m l) hd ns (rn.take j) (startT t)).at_ t.depot.toNat + (goT (roadD m l) hd ns (rn.take j) (startT t)).load * hd ≤ outB' m l ts ns hd q rn
  | 0, j, hj => by
    obtain rfl : j = rn.length := by omega
    rw [List.take_length]
    have hh := h.home
    have hB := h.B
    unfold homeE at hh
    split at hh
    · cases hh
    · exact ⟨by omega, by omega⟩
  | k + 1, j, hj => by
    have hlt : j < rn.length := by omega
    obtain ⟨i1, i2⟩ := h.back k (j + 1) (by omega)
    have hv := goE_at h.go hlt
    have hS := h.ts j (by omega)
    obtain ⟨hi0, hi1⟩ := h.hr rn[j] (List.getElem_mem hlt)
    obtain ⟨ni, hni⟩ := Int.eq_ofNat_of_zero_le hi0
    have hnl : ni < ns.length := by omega
    have hna : needAt ns rn[j] = ns[ni] := by rw [hni]; simp [needAt, hnl]
    have hnx := h.night.nd ns[ni] (List.getElem_mem hnl)
    have hgD : goD (roadD m l) ns rn[j] (goT (roadD m l) hd ns (rn.take j) (startT t)) = roadT m l (goT (roadD m l) hd ns (rn.take j) (startT t)).at_ ns[ni].node.toNat := by unfold goD roadD; rw [hna]; simp
    rw [goT_succ hlt] at i1 i2
    rw [hgD, hna] at hv i1 i2
    generalize goT (roadD m l) hd ns (rn.take j) (startT t) = s at *
    have hhh := h.night.hh
    have htr := h.tr
    have hd0 : 0 ≤ roadT m l s.at_ ns[ni].node.toNat := by
      unfold visitE at hv
      split at hv
      · cases hv
      · omega
    simp only [visitT] at i1 i2
    obtain ⟨t1, t2⟩ := roadT_tri h.night.road hS.at_ (show ns[ni].node.toNat < m by omega) (show t.depot.toNat < m by omega) hd0 i1
    refine ⟨t1, ?_⟩
    have hab : 0 ≤ (absI ns[ni].move + ns[ni].move) * hd := Int.mul_nonneg (by unfold absI; split <;> omega) hhh.1
    rw [Int.add_mul] at hab i2
    omega
theorem walkOk_at (h : WalkOk m q l ts ns hd rn t) {rn2 : List Int} (h2 : walkE m l ts ns hd q rn2 = 0) : WalkOk m q l ts ns hd rn2 t := by
  obtain ⟨m', q', t', hm, hq, hW⟩ := walkOk_of h2
  obtain rfl : m = m' := by omega
  obtain rfl : q = q' := by omega
  have e := hW.ht
  rw [h.ht] at e
  cases e
  exact hW
theorem WalkOk.begins (h : WalkOk m q l ts ns hd rn t) (he : walkE m l ts ns hd q rn = 0) (j : Nat) (hj : j ≤ rn.length) : walkE m l ts ns hd q (rn.take j) = 0 := by
  have h0 := walkE_route he
  have hq := h.hq
  have htl : ts.getD (q : Int).toNat default = t := by
    have := h.ht
    rw [List.getElem?_eq_getElem hq] at this
    simpa [hq] using this
  have hr2 : routeErr ts ns q (rn.take j) = 0 := by
    unfold routeErr
    rw [if_neg, if_neg]
    · have := h.nd.sublist (List.take_sublist j rn)
      simp [twiceB, this]
    · rintro (h1 | h1)
      · simp [outB, inB] at h1; omega
      · obtain ⟨i, hi, h2⟩ := List.any_eq_true.1 h1
        have := h.hr i (List.mem_of_mem_take hi)
        simp [outB, inB] at h2; omega
  rw [walkE, if_neg (by simp [h0.1]), if_neg (by simp [hr2])]
  unfold endT
  rw [htl, goE_take h.go j, if_neg (by simp)]
  obtain ⟨b1, b2⟩ := h.back (rn.length - j) j (by omega)
  have hto : outB' m l ts ns hd q rn ≤ t.to_ := by
    have hh := h.home
    have hB := h.B
    unfold homeE at hh
    split at hh
    · cases hh
    · split at hh
      · cases hh
      · omega
  have e : roadD m l (goT (roadD m l) hd ns (rn.take j) (startT t)).at_ t.depot.toNat = roadT m l (goT (roadD m l) hd ns (rn.take j) (startT t)).at_ t.depot.toNat := by simp [roadD]
  rw [e, homeE, if_neg (by omega), if_neg (by omega)]
theorem WalkOk.early (h : WalkOk m q l ts ns hd rn t) (he : walkE m l ts ns hd q rn = 0) (j : Nat) (hj : j ≤ rn.length) : outB' m l ts ns hd q (rn.take j) ≤ outB' m l ts ns hd q rn ∧ outV m l ts ns hd q (rn.take j) = (outV m l ts ns hd q rn).take j := by
  have h2 := walkOk_at h (h.begins he j hj)
  refine ⟨?_, ?_⟩
  · rw [h2.B]
    exact (h.back (rn.length - j) j (by omega)).2
  · rw [h2.V, h.V]
    have e := goV_app (roadD m l) hd ns (rn.take j) (rn.drop j) (startT t)
    rw [List.take_append_drop] at e
    have hl : (goV (roadD m l) hd ns (rn.take j) (startT t)).length = j := by rw [goV_len]; simp; omega
    rw [e, List.take_left' hl]
end
end Go.Proofs.Ytgjfjbphngamgaa
