/-
 Walks: Gap and Better of the program.
-/
import Derived.Test.YtgcokllbophkkaaGreatK11
import Derived.Test.YtgcokllbophkkaaGreatB4
import Derived.Test.YtgcokllbophkkaaGreatPtr
import Derived.Test.YtgcokllbophkkaaGreatT2
import Derived.Test.YtgcokllbophkkaaGreatT12
import Derived.Test.YtgcokllbophkkaaGreatB1
import Derived.Test.YtgcokllbophkkaaGreatK1
import Derived.Test.YtgcokllbophkkaaGreatFT13
import Derived.Test.YtgcokllbophkkaaGreatFM1
set_option linter.all false
namespace Go.Proofs.YtgcokllbophkkaaGreat
open Go Go.W Go.RowKit
noncomputable def gapE (n : Int) (l : List Edg) (ts : List Truck) (ns : List Need) (hd : Int) (rs : List Rt) (left : List Int) : Int :=
 if planErr n l ts ns hd rs left ≠ 0 then planErr n l ts ns hd rs left else if left ≠ [] then 26 else findErr n l ts ns hd
structure GapAns (n : Int) (l : List Edg) (ts : List Truck) (ns : List Need) (hd : Int) (rs : List Rt) (left : List Int) (x : Int) : Prop where
 bad : gapE n l ts ns hd rs left ≠ 0 → x = 0
 good : gapE n l ts ns hd rs left = 0 → planErr n l ts ns hd rs left = 0 ∧ left = [] ∧ findErr n l ts ns hd = 0 ∧ ∃ (s b : Int) (us vs : List Int), FindRet n l ts ns hd s b us vs ∧ x = drvL n l ts ns hd rs - s
theorem drvL_bd {n hd : Int} {l : List Edg} {ts : List Truck} {ns : List Need} : ∀ (rs : List Rt), (∀ i (h : i < rs.length), walkE n l ts ns hd rs[i].trk rs[i].nd.l = 0) → 0 ≤ drvL n l ts ns hd rs ∧ drvL n l ts ns hd rs ≤ 2000000 * rs.length
 | [], _ => by simp [drvL]
 | r :: rs, h => by
  have h1 := drvL_bd rs fun i hi => h (i + 1) (by simpa using hi)
  have h2 := outD_bd (h 0 (by simp))
  simp only [drvL, List.map_cons, List.sum_cons, List.length_cons, List.getElem_cons_zero] at h1 h2 ⊢
  omega
theorem FindRet.secs {n hd s b : Int} {l : List Edg} {ts : List Truck} {ns : List Need} {us vs : List Int} (h : FindRet n l ts ns hd s b us vs) : 0 ≤ s ∧ s ≤ 1125899906842624 := by
 by_cases he : findErr n l ts ns hd = 0
 ·obtain ⟨m, T, rfl, hK, hS, rfl, _, h3⟩ := h.good he
  have h1 := hS.tn
  have h2 := capL_bd hK
  unfold divI
  split
  ·omega
  ·have h4 := Int.ediv_le_self (a := T + capL ts - 1) (capL ts) (by omega)
   have h5 := Int.ediv_nonneg (a := T + capL ts - 1) (b := capL ts) (by omega) (by omega)
   omega
 ·obtain ⟨rfl, _⟩ := h.bad he
  omega
set_option maxHeartbeats 2000000 in
theorem rebGap (n hd : Int) (A B C P F : Option Addr) (l : List Edg) (ts : List Truck) (ns : List Need) (rs : List Rt) (left : List Int) (ca cb cc cp cf : Nat) (w0 : World) (hN : NightAt w0 A B C l ts ns cc)
  (hP : RtsAt w0 P rs) (hF : IntsAt w0 F left) (hfl : left.length ≤ 1000) (hnl : ns.length ≤ 1000) :
  Calls Tryz.prog 17 #[.agg #[I n, .slice A l.length ca, .slice B ts.length cb, .slice C ns.length cc, I hd], .agg #[.slice P rs.length cp, .slice F left.length cf]] w0 fun e w' =>
   ∃ x, e = .returned (.tuple #[I x, I (gapE n l ts ns hd rs left)]) ∧ GapAns n l ts ns hd rs left x ∧ Below w0.heap.size w0 w' := by
 have H := SH.refl w0
 have hfew := hP.few
 refine Calls.ofWP Tryz.func17 rfl Tryz.results17 Tryz.ntmps17 rfl <| Y.qr <| Y.bx (cA rfl) H ?_
 clear H; intro g2 w H
 refine Y.bx (cA rfl) H ?_
 clear H; intro g3 w H
 refine Y.v (Ev.asI rfl) <| Y.v (Ev.asI rfl) <| Y.z <| Y.qr <| Y.v (Y.o H 1 rfl rfl) <| Y.v (Y.o H 0 rfl rfl) <| OPS.call (d := some 13) rfl rfl rfl (EvC.func (fun_run rfl)) (rebValue n hd A B C P F l ts ns rs left ca cb cc cp cf w (hN.sh H) (hP.sh H) (hF.sh H) hfl hnl) ?_
 rintro _ w ⟨rfl, hb⟩
 refine ⟨_, rfl, ?_⟩
 replace H := H.toBelow hb; clear hb
 refine Y.v (Ev.mvT rfl) <| Y.v (Ev.extract rfl rfl) <| Y.v (Ev.extract rfl rfl) <| Y.v (Ev.extract rfl rfl) <| Y.v (Ev.asI rfl) <| Y.v (Ev.asI rfl) <| Y.v (Ev.asI rfl) <| Y.z <| Y.q <| Y.qr <| Y.v (Y.m rfl) <| Y.v (Ev.neq rfl rfl) <| Y.z ?_
 refine WP.cond rfl (fun hc2 => ?_) (fun hc2 => ?_)
 ·refine Y.qr <| Y.v (Y.m rfl) <| Y.v (Ev.asI rfl) <| Y.v (Ev.asI rfl) <| Y.z ?_
  refine WP.ret ⟨_, rfl, ?_⟩
  have h : planErr n l ts ns hd rs left ≠ 0 := by simpa using hc2
  have hg : gapE n l ts ns hd rs left = planErr n l ts ns hd rs left := if_pos h
  exact ⟨0, by rw [hg]; rfl, ⟨fun _ => rfl, fun h2 => absurd (hg ▸ h2) h⟩, H.below⟩
 have h0 : planErr n l ts ns hd rs left = 0 := by simpa using hc2
 have hK := planOk_of h0
 have hd0 := drvL_bd rs hK.walks
 refine Y.k <| Y.q <| Y.qr <| Y.v (Y.f rfl rfl) <| Y.v (Y.l H 0 rfl rfl rfl) <| Y.v (Y.n rfl) <| Y.v (Ev.gtr rfl rfl) <| Y.z ?_
 refine WP.cond rfl (fun hc4 => ?_) (fun hc4 => ?_)
 ·refine Y.qr <| Y.v (Ev.asI rfl) <| Y.v (Ev.asI rfl) <| Y.z ?_
  refine WP.ret ⟨_, rfl, ?_⟩
  have h : left ≠ [] := by
   rintro rfl
   simp at hc4
  have hg : gapE n l ts ns hd rs left = 26 := by rw [gapE, if_neg (by simp [h0]), if_pos h]
  exact ⟨0, by rw [hg]; rfl, ⟨fun _ => rfl, fun h2 => absurd (hg ▸ h2) (by decide)⟩, H.below⟩
 have h1 : left = [] := by
  cases left with
  | nil => rfl
  | cons a t => simp at hc4
 subst h1
 have hg : gapE n l ts ns hd rs [] = findErr n l ts ns hd := by rw [gapE, if_neg (by simp [h0]), if_neg (by simp)]
 refine Y.k <| Y.qr <| Y.v (Y.o H 1 rfl rfl) <| OPS.call (d := some 26) rfl rfl rfl (EvC.func (fun_run rfl)) (boundFind n hd A B C l ts ns ca cb cc w (hN.sh H)) ?_
 rintro _ w ⟨s, b, us, vs, AU, AV, cu, cv, L, rfl, hR, hrd, Hc⟩
 refine ⟨_, rfl, ?_⟩
 replace H := SH.call (Lv := []) (by rw [List.append_nil]; exact H) Hc
 clear Hc
 refine Y.v (Ev.mvT rfl) <| Y.v (Ev.extract rfl rfl) <| Y.v (Ev.extract rfl rfl) <| Y.al H rfl rfl ?_
 clear H; intro g9 w H
 refine OPS.store 0 _ rfl rfl rfl (size_run rfl) rfl (cA rfl) rfl rfl H rfl (by simp) ?_
 clear H; intro w H; try simp only [List.set_cons_zero, List.set_cons_succ, putL, Nat.zero_add] at H
 refine Y.v (Ev.asI rfl) <| Y.z <| Y.q <| Y.qr <| Y.v (Y.m rfl) <| Y.v (Ev.neq rfl rfl) <| Y.z ?_
 refine WP.cond rfl (fun hc7 => ?_) (fun hc7 => ?_)
 ·refine Y.qr <| Y.v (Y.m rfl) <| Y.v (Ev.asI rfl) <| Y.v (Ev.asI rfl) <| Y.z ?_
  refine WP.ret ⟨_, rfl, ?_⟩
  have h2 : findErr n l ts ns hd ≠ 0 := by simpa using hc7
  exact ⟨0, by rw [hg]; rfl, ⟨fun _ => rfl, fun h3 => absurd (hg ▸ h3) h2⟩, H.below⟩
 have h2 : findErr n l ts ns hd = 0 := by simpa using hc7
 have hsb := hR.secs
 have hvd : valD n l ts ns hd rs [] = drvL n l ts ns hd rs := if_pos h0
 unfold bndL at H
 refine Y.k <| Y.qr <| Y.v (Y.m rfl) <| Y.v (Y.f rfl rfl) <| Y.v (Y.l H 0 rfl rfl rfl) <| Y.v (Y.s rfl rfl) <| Y.v (Ev.asI rfl) <| Y.v (Ev.asI rfl) <| Y.z ?_
 refine WP.ret ⟨_, rfl, ?_⟩
 exact ⟨valD n l ts ns hd rs [] - s, by rw [hg, h2]; rfl, ⟨fun h3 => absurd (hg.trans h2) h3, fun _ => ⟨h0, rfl, h2, s, b, us, vs, hR, by rw [hvd]⟩⟩, H.below⟩
def betB (eA eB lA lB dA dB : Int) : Bool := decide (eA = 0) && (decide (eB = 0) && (decide (lA < lB) || (decide (lA = lB) && decide (dA < dB))))
set_option maxHeartbeats 2000000 in
theorem rebBetter (n hd : Int) (A B C P F P2 F2 : Option Addr) (l : List Edg) (ts : List Truck) (ns : List Need) (rs rs2 : List Rt) (left left2 : List Int) (ca cb cc cp cf cp2 cf2 : Nat) (w0 : World) (hN : NightAt w0 A B C l ts ns cc)
  (hP : RtsAt w0 P rs) (hF : IntsAt w0 F left) (hfl : left.length ≤ 1000) (hP2 : RtsAt w0 P2 rs2) (hF2 : IntsAt w0 F2 left2) (hfl2 : left2.length ≤ 1000) (hnl : ns.length ≤ 1000) :
  Calls Tryz.prog 19 #[.agg #[I n, .slice A l.length ca, .slice B ts.length cb, .slice C ns.length cc, I hd], .agg #[.slice P rs.length cp, .slice F left.length cf], .agg #[.slice P2 rs2.length cp2, .slice F2 left2.length cf2]] w0 fun e w' =>
   e = .returned (.bool (betB (planErr n l ts ns hd rs left) (planErr n l ts ns hd rs2 left2) (valL n l ts ns hd rs left) (valL n l ts ns hd rs2 left2) (valD n l ts ns hd rs left) (valD n l ts ns hd rs2 left2))) ∧ Below w0.heap.size w0 w' := by
 have H := SH.refl w0
 refine Calls.ofWP Tryz.func19 rfl Tryz.results19 Tryz.ntmps19 rfl <| Y.qr <| Y.bx (cA rfl) H ?_
 clear H; intro g3 w H
 refine Y.bx (cA rfl) H ?_
 clear H; intro g4 w H
 refine Y.bx (cA rfl) H ?_
 clear H; intro g5 w H
 refine Y.v (Ev.asB rfl) <| Y.z <| Y.qr <| Y.v (Y.o H 2 rfl rfl) <| Y.v (Y.o H 1 rfl rfl) <| OPS.call (d := some 16) rfl rfl rfl (EvC.func (fun_run rfl)) (rebValue n hd A B C P F l ts ns rs left ca cb cc cp cf w (hN.sh H) (hP.sh H) (hF.sh H) hfl hnl) ?_
 rintro _ w ⟨rfl, hb⟩
 refine ⟨_, rfl, ?_⟩
 replace H := H.toBelow hb; clear hb
 refine Y.v (Ev.mvT rfl) <| Y.v (Ev.extract rfl rfl) <| Y.v (Ev.extract rfl rfl) <| Y.v (Ev.extract rfl rfl) <| Y.v (Ev.asI rfl) <| Y.v (Ev.asI rfl) <| Y.v (Ev.asI rfl) <| Y.z <| Y.qr <| Y.v (Y.o H 2 rfl rfl) <| Y.v (Y.o H 0 rfl rfl) <| OPS.call (d := some 23) rfl rfl rfl (EvC.func (fun_run rfl)) (rebValue n hd A B C P2 F2 l ts ns rs2 left2 ca cb cc cp2 cf2 w (hN.sh H) (hP2.sh H) (hF2.sh H) hfl2 hnl) ?_
 rintro _ w ⟨rfl, hb⟩
 refine ⟨_, rfl, ?_⟩
 replace H := H.toBelow hb; clear hb
 refine Y.v (Ev.mvT rfl) <| Y.v (Ev.extract rfl rfl) <| Y.v (Ev.extract rfl rfl) <| Y.v (Ev.extract rfl rfl) <| Y.v (Ev.asI rfl) <| Y.v (Ev.asI rfl) <| Y.v (Ev.asI rfl) <| Y.z <| Y.q <| Y.qr <| Y.v (Y.m rfl) <| Y.v (Ev.neq rfl rfl) <| Y.v (Ev.mvB rfl) <| Y.g rfl rfl (fun hg => Y.m rfl) <| Y.g rfl rfl (fun hg => Ev.neq (gvE hg rfl) rfl) <| Y.v (Ev.pickOr rfl rfl rfl) <| Y.z ?_
 refine WP.cond rfl (fun hc3 => ?_) (fun hc3 => ?_)
 ·refine Y.qr <| Y.v (Ev.asB rfl) <| Y.z ?_
  refine WP.ret ⟨_, rfl, ?_⟩
  refine ⟨ret_b rfl ?_, H.below⟩
  unfold betB
  simp at hc3
  grind
 refine Y.k <| Y.qr <| Y.v (Y.m rfl) <| Y.v (Y.m rfl) <| Y.v (Ev.lss rfl rfl) <| Y.v (Ev.mvB rfl) <| Y.g rfl rfl (fun hg => Y.m rfl) <| Y.g rfl rfl (fun hg => Y.m rfl) <| Y.g rfl rfl (fun hg => Ev.eql (gvE hg rfl) (gvE hg rfl)) <| Y.g rfl rfl (fun hg => Ev.mvB (gvE hg rfl)) <| OPS.gvalN rfl rfl (GB.g rfl) rfl rfl (fun hg => Ev.mvI rfl) <| OPS.gvalN rfl rfl (GB.g rfl) rfl rfl (fun hg => Ev.mvI rfl) <| OPS.gvalN rfl rfl (GB.g rfl) rfl rfl (fun hg => Ev.lss (gvE hg rfl) (gvE hg rfl)) <| Y.g rfl rfl (fun hg => Ev.pickAnd2 (beqT hg) (gvE hg rfl) rfl rfl) <| Y.v (Ev.pickOr rfl rfl rfl) <| Y.v (Ev.asB rfl) <| Y.z ?_
 refine WP.ret ⟨_, rfl, ?_⟩
 refine ⟨ret_b rfl ?_, H.below⟩
 unfold betB
 simp at hc3
 grind
end Go.Proofs.YtgcokllbophkkaaGreat

/-
 Plain: the chapter's nights.
-/
set_option linter.all false
namespace Go.Proofs.YtgcokllbophkkaaGreat
open Go Go.W Go.RowKit
def tL : List Edg := [⟨0, 1, 60⟩, ⟨1, 0, 60⟩, ⟨1, 2, 30⟩, ⟨2, 1, 30⟩, ⟨0, 2, 80⟩, ⟨2, 0, 80⟩]
def tT (c : Int) : List Truck := [⟨0, c, 0, 3600⟩]
def tN : List Need := [⟨1, 8⟩, ⟨2, -5⟩]
theorem tE10 : nightErr 3 tL (tT 10) tN 10 = 0 := by decide
theorem tE7 : nightErr 3 tL (tT 7) tN 10 = 0 := by decide
theorem tRoad : RoadOk 3 tL := by
 obtain ⟨m, hm, hN⟩ := nightOk_of tE10
 obtain rfl : m = 3 := by omega
 exact hN.road
theorem tEdge {i u v : Nat} {w : Int} (h : EdgeAt tL i u v w) : (u = 0 ∧ v = 1 ∧ w = 60) ∨ (u = 1 ∧ v = 0 ∧ w = 60) ∨ (u = 1 ∧ v = 2 ∧ w = 30) ∨ (u = 2 ∧ v = 1 ∧ w = 30) ∨ (u = 0 ∧ v = 2 ∧ w = 80) ∨ (u = 2 ∧ v = 0 ∧ w = 80) := by
 obtain ⟨hi, h1, h2, h3⟩ := h
 have hi6 : i < 6 := hi
 match i, hi6, hi, h1, h2, h3 with
 | 0, _, _, h1, h2, h3 => have h1 : (0 : Int) = u := h1; have h2 : (1 : Int) = v := h2; have h3 : (60 : Int) = w := h3; omega
 | 1, _, _, h1, h2, h3 => have h1 : (1 : Int) = u := h1; have h2 : (0 : Int) = v := h2; have h3 : (60 : Int) = w := h3; omega
 | 2, _, _, h1, h2, h3 => have h1 : (1 : Int) = u := h1; have h2 : (2 : Int) = v := h2; have h3 : (30 : Int) = w := h3; omega
 | 3, _, _, h1, h2, h3 => have h1 : (2 : Int) = u := h1; have h2 : (1 : Int) = v := h2; have h3 : (30 : Int) = w := h3; omega
 | 4, _, _, h1, h2, h3 => have h1 : (0 : Int) = u := h1; have h2 : (2 : Int) = v := h2; have h3 : (80 : Int) = w := h3; omega
 | 5, _, _, h1, h2, h3 => have h1 : (2 : Int) = u := h1; have h2 : (0 : Int) = v := h2; have h3 : (80 : Int) = w := h3; omega
def ta3 (a b c : Int) (v : Nat) : Int := if v = 0 then a else if v = 1 then b else c
theorem tRD {s : Nat} {a b c : Int} (h0 : ta3 a b c s = 0) (ha : 0 ≤ a) (hb : 0 ≤ b) (hc : 0 ≤ c) (hclo : b ≤ a + 60 ∧ a ≤ b + 60 ∧ c ≤ b + 30 ∧ b ≤ c + 30 ∧ c ≤ a + 80 ∧ a ≤ c + 80)
  (hpar : ∀ v, v < 3 → v ≠ s → ∃ u i w, u < 3 ∧ EdgeAt tL i u v w ∧ ta3 a b c v = ta3 a b c u + w) : RD tL 3 s (fun _ => true) (ta3 a b c) where
 src := ⟨rfl, h0⟩
 clo i u v w hE _ _ _ := by
  refine ⟨rfl, ?_⟩
  rcases tEdge hE with ⟨rfl, rfl, rfl⟩ | ⟨rfl, rfl, rfl⟩ | ⟨rfl, rfl, rfl⟩ | ⟨rfl, rfl, rfl⟩ | ⟨rfl, rfl, rfl⟩ | ⟨rfl, rfl, rfl⟩ <;> simp [ta3] <;> omega
 par v hv _ hvs := by
  obtain ⟨u, i, w, h1, h2, h3⟩ := hpar v hv hvs
  exact ⟨u, i, w, h1, rfl, h2, h3⟩
 nn v _ _ := by unfold ta3; split <;> (try split) <;> omega
theorem tRD0 : RD tL 3 0 (fun _ => true) (ta3 0 60 80) := tRD rfl (by omega) (by omega) (by omega) (by omega) fun v hv hne => by
 rcases (show v = 1 ∨ v = 2 by omega) with rfl | rfl
 ·exact ⟨0, 0, 60, by omega, ⟨by decide, rfl, rfl, rfl⟩, rfl⟩
 ·exact ⟨0, 4, 80, by omega, ⟨by decide, rfl, rfl, rfl⟩, rfl⟩
theorem tRD1 : RD tL 3 1 (fun _ => true) (ta3 60 0 30) := tRD rfl (by omega) (by omega) (by omega) (by omega) fun v hv hne => by
 rcases (show v = 0 ∨ v = 2 by omega) with rfl | rfl
 ·exact ⟨1, 1, 60, by omega, ⟨by decide, rfl, rfl, rfl⟩, rfl⟩
 ·exact ⟨1, 2, 30, by omega, ⟨by decide, rfl, rfl, rfl⟩, rfl⟩
theorem tRD2 : RD tL 3 2 (fun _ => true) (ta3 80 30 0) := tRD rfl (by omega) (by omega) (by omega) (by omega) fun v hv hne => by
 rcases (show v = 0 ∨ v = 1 by omega) with rfl | rfl
 ·exact ⟨2, 5, 80, by omega, ⟨by decide, rfl, rfl, rfl⟩, rfl⟩
 ·exact ⟨2, 3, 30, by omega, ⟨by decide, rfl, rfl, rfl⟩, rfl⟩
theorem t00 : roadT 3 tL 0 0 = 0 := by rw [roadT_eq tRoad tRD0 (by omega)]; rfl
theorem t01 : roadT 3 tL 0 1 = 60 := by rw [roadT_eq tRoad tRD0 (by omega)]; rfl
theorem t02 : roadT 3 tL 0 2 = 80 := by rw [roadT_eq tRoad tRD0 (by omega)]; rfl
theorem t12 : roadT 3 tL 1 2 = 30 := by rw [roadT_eq tRoad tRD1 (by omega)]; rfl
theorem t20 : roadT 3 tL 2 0 = 80 := by rw [roadT_eq tRoad tRD2 (by omega)]; rfl
theorem tW01 : walkE 3 tL (tT 10) tN 10 0 [0, 1] = 0 := by
 rw [walkE, if_neg (by rw [tE10]; decide), if_neg (by decide)]
 simp [endT, goE, goT, goD, roadD, needAt, visitE, visitT, inB, startT, homeE, tN, tT, t01, t12, t20, absI]
theorem tD01 : outD 3 tL (tT 10) tN 10 0 [0, 1] = 170 := by
 rw [outD, if_pos tW01]
 simp [walkT, endT, goT, goD, roadD, needAt, visitT, startT, homeT, driveS, tN, tT, t01, t12, t20]
theorem tW7 : walkE 3 tL (tT 7) tN 10 0 [] = 0 := by
 rw [walkE, if_neg (by rw [tE7]; decide), if_neg (by decide)]
 simp [endT, goE, goT, goD, roadD, startT, homeE, tT, t00]
theorem tW10 : walkE 3 tL (tT 10) tN 10 0 [1, 0] ≠ 0 := by
 rw [walkE, if_neg (by rw [tE10]; decide), if_neg (by decide)]
 simp [goE, goD, roadD, needAt, visitE, inB, startT, tN, tT, t02]
theorem tW0 (x : List Int) (hr : routeErr (tT 7) tN 0 (0 :: x) = 0) : walkE 3 tL (tT 7) tN 10 0 (0 :: x) ≠ 0 := by
 rw [walkE, if_neg (by rw [tE7]; decide), if_neg (by rw [hr]; decide)]
 simp [goE, goD, roadD, needAt, visitE, inB, startT, tN, tT, t01]
theorem tW1 (x : List Int) (hr : routeErr (tT 7) tN 0 (1 :: x) = 0) : walkE 3 tL (tT 7) tN 10 0 (1 :: x) ≠ 0 := by
 rw [walkE, if_neg (by rw [tE7]; decide), if_neg (by rw [hr]; decide)]
 simp [goE, goD, roadD, needAt, visitE, inB, startT, tN, tT, t02]
theorem of01 {o : List Int} (h1 : o.Nodup) (h2 : ∀ i ∈ o, i ∈ [(0 : Int), 1]) : o = [] ∨ o = [0] ∨ o = [1] ∨ o = [0, 1] ∨ o = [1, 0] := by
 have h4 := h1.length_le_of_subset (l₂ := [0, 1]) h2
 match o, h1, h2, h4 with
 | [], _, _, _ => simp
 | [a], _, h2, _ =>
  have := h2 a (by simp)
  simp at this
  rcases this with rfl | rfl <;> simp
 | [a, b], h1, h2, _ =>
  have ha := h2 a (by simp)
  have hb := h2 b (by simp)
  simp at ha hb
  rcases ha with rfl | rfl <;> rcases hb with rfl | rfl <;> first | (exact absurd h1 (by decide)) | simp
theorem tR10 : RouteR 3 tL (tT 10) tN 10 0 [0, 1] [0, 1] := .inl ⟨by decide, ⟨⟨⟨by decide, fun i hi => hi⟩, tW01⟩, fun o ho => by
 obtain ⟨⟨h1, h2⟩, h3⟩ := ho
 have hm : mvL tN [0, 1] = 13 := by decide
 rcases of01 h1 h2 with rfl | rfl | rfl | rfl | rfl
 ·rintro (h | ⟨h, _⟩) <;> exact absurd h (by decide)
 ·rintro (h | ⟨h, _⟩) <;> exact absurd h (by decide)
 ·rintro (h | ⟨h, _⟩) <;> exact absurd h (by decide)
 ·exact worse_irr _ _ _
 ·exact absurd h3 tW10⟩⟩
theorem tR7 : RouteR 3 tL (tT 7) tN 10 0 [0, 1] [] := .inl ⟨by decide, ⟨⟨⟨by decide, by simp⟩, tW7⟩, fun o ho => by
 obtain ⟨⟨h1, h2⟩, h3⟩ := ho
 rcases of01 h1 h2 with rfl | rfl | rfl | rfl | rfl
 ·exact worse_irr _ _ _
 ·exact absurd h3 (tW0 [] (by decide))
 ·exact absurd h3 (tW1 [] (by decide))
 ·exact absurd h3 (tW0 [1] (by decide))
 ·exact absurd h3 (tW1 [0] (by decide))⟩⟩
theorem tMk10 {e : Int} {R : List (Int × List Int)} {left : List Int} (h : MakeAns tL (tT 10) tN 10 3 e R left) : e = 0 ∧ R = [(0, [0, 1])] ∧ left = [] := by
 refine h.unique (e' := 0) (R' := [(0, [0, 1])]) (left' := []) ⟨tE10.symm, fun h => absurd rfl h, fun _ => ⟨3, rfl, ?_⟩⟩
 have h0 : MkR 3 tL (tT 10) tN 10 0 [] [0, 1] := MkR.start
 exact MkR.add h0 tR10 (by simp)
theorem tMk7 {e : Int} {R : List (Int × List Int)} {left : List Int} (h : MakeAns tL (tT 7) tN 10 3 e R left) : e = 0 ∧ R = [] ∧ left = [0, 1] := by
 refine h.unique (e' := 0) (R' := []) (left' := [0, 1]) ⟨tE7.symm, fun h => absurd rfl h, fun _ => ⟨3, rfl, ?_⟩⟩
 have h0 : MkR 3 tL (tT 7) tN 10 0 [] [0, 1] := MkR.start
 exact MkR.skip h0 tR7
theorem tPl10 {r : Rt} (h1 : r.trk = 0) (h2 : r.nd.l = [0, 1]) : planErr 3 tL (tT 10) tN 10 [r] [] = 0 := by
 have hr : routesE 3 tL (tT 10) tN 10 [r] = 0 := by
  rw [routesE, h1, h2, tW01]; simp [routesE]
 have ha : allN [r] = [0, 1] := by simp [allN, h2]
 rw [planErr, if_neg (by rw [tE10]; simp), if_neg (by rw [hr]; simp), ha, List.map_cons, h1]
 decide
theorem tPl7 : planErr 3 tL (tT 7) tN 10 [] [0, 1] = 0 := by
 rw [planErr, if_neg (by rw [tE7]; simp), if_neg (by simp [routesE])]
 decide
theorem tDr10 {r : Rt} (h1 : r.trk = 0) (h2 : r.nd.l = [0, 1]) : drvL 3 tL (tT 10) tN 10 [r] = 170 := by
 unfold drvL; simp [h1, h2, tD01]
theorem tTm : timL 3 tL tN = [[30]] := by
 have h : timL 3 tL tN = [[roadT 3 tL 1 2]] := rfl
 rw [h, t12]
theorem tFe : findErr 3 tL (tT 10) tN 10 = 0 := by
 rw [findErr, if_neg (by rw [tE10]; simp), show (3 : Int).toNat = 3 from rfl, tTm, solveErr, if_neg (by decide), if_pos]
 intro u v hu hF
 have := hF 0 0 30 rfl (by omega)
 have := hu 0
 show Flo.dn [5] v ≤ Flo.dn [8] u
 simp [Flo.dn]; omega
theorem tDM : Flo.DMax [8] [5] [[30]] 150 := by
 refine ⟨⟨fun _ => 0, fun _ => 30, fun _ => Int.le_refl _, fun j k x h _ => by obtain ⟨_, _, rfl⟩ := tm1 h; show (30 : Int) ≤ 0 + 1 * 30; omega, by simp [Flo.dn]⟩, fun u v hu hF => ?_⟩
 have := hF 0 0 30 rfl (by omega)
 have := hu 0
 simp [Flo.dn]; omega
theorem tSecs {s b : Int} {us vs : List Int} (h : FindRet 3 tL (tT 10) tN 10 s b us vs) : s = 15 := by
 obtain ⟨m, T, hm, _, hS, h1, h2, _⟩ := h.good tFe
 obtain rfl : m = 3 := by omega
 have hx := hS.max
 rw [tTm] at hx
 obtain rfl : T = 150 := hx.unique tDM
 exact h1.trans (by decide)
theorem tGap {r : Rt} (h1 : r.trk = 0) (h2 : r.nd.l = [0, 1]) : gapE 3 tL (tT 10) tN 10 [r] [] = 0 := by
 rw [gapE, if_neg (by rw [tPl10 h1 h2]; simp), if_neg (by simp), tFe]
theorem tGapV {r : Rt} {x : Int} (h1 : r.trk = 0) (h2 : r.nd.l = [0, 1]) (h : GapAns 3 tL (tT 10) tN 10 [r] [] x) : x = 155 := by
 obtain ⟨_, _, _, s, b, us, vs, hR, rfl⟩ := h.good (tGap h1 h2)
 rw [tDr10 h1 h2, tSecs hR]; rfl
theorem tVal7 : valL 3 tL (tT 7) tN 10 [] [0, 1] = 13 ∧ valD 3 tL (tT 7) tN 10 [] [0, 1] = 0 := by
 rw [valL, valD, if_pos tPl7, if_pos tPl7]
 exact ⟨by decide, rfl⟩
theorem betB_irr (e l d : Int) : betB e e l l d d = false := by unfold betB; simp
end Go.Proofs.YtgcokllbophkkaaGreat

/-
 Walks: Ints, Same; few, small; Town.
-/
set_option linter.all false
namespace Go.Proofs.YtgcokllbophkkaaGreat
open Go Go.W Go.RowKit
set_option maxHeartbeats 1000000 in
theorem r45Ints (A B : Option Addr) (a b : List Int) (ca cb : Nat) (w0 : World) (ha : IntsAt w0 A a) (hb : IntsAt w0 B b) (hal : a.length ≤ 1000) (hbl : b.length ≤ 1000) :
  Calls Tryz.prog 35 #[.slice A a.length ca, .slice B b.length cb] w0 fun e w' => e = .returned (.bool (decide (a = b))) ∧ Below w0.heap.size w0 w' := by
 have H := SH.refl w0
 refine Calls.ofWP Tryz.func35 rfl Tryz.results35 Tryz.ntmps35 rfl <| Y.qr <| Y.v (Ev.asB rfl) <| Y.z <| Y.q <| Y.qr <| Y.v (Ev.mvS rfl) <| Y.v (Y.n rfl) <| Y.v (Ev.mvS rfl) <| Y.v (Y.n rfl) <| Y.v (Ev.neq rfl rfl) <| Y.z ?_
 refine WP.cond rfl (fun hc1 => ?_) (fun hc1 => ?_)
 ·refine Y.qr <| Y.v (Ev.asB rfl) <| Y.z ?_
  refine WP.ret ⟨_, rfl, ?_⟩
  have h : a ≠ b := by
   rintro rfl
   simp at hc1
  exact ⟨by rw [decide_eq_false h]; rfl, H.below⟩
 have hlen : a.length = b.length := by
  have : (a.length : Int) = b.length := by simpa using hc1
  omega
 refine Y.k <| Y.q <| Y.qr <| Y.v (Ev.asI rfl) <| Y.z <| WP.block <| WP.loop [4, 5, 11, 12, 13, 14, 15, 16, 17, 18, 19, 20, 21, 22, 23, 24, 25] (fun k e w' => ∃ j : Nat, j + k = a.length ∧ e 5 = I j ∧ (∀ i (h : i < a.length) (h2 : i < b.length), i < j → a[i] = b[i]) ∧ SH w0 [] w' []) (a.length) (⟨0, by omega, rfl, fun i _ _ h => absurd h (by omega), H⟩) ?_
 clear H
 rintro k u w ⟨j, hk, h5, hall, H⟩
 refine WP.know (t := 5) h5 <| Y.q <| Y.qr <| Y.v (Y.m rfl) <| Y.v (Ev.mvS rfl) <| Y.v (Y.n rfl) <| Y.v (Ev.lss rfl rfl) <| Y.z ?_
 refine WP.cond rfl (fun hc4 => ?_) (fun hc4 => ?_)
 ·have hlt : j < a.length := by simpa using hc4
  obtain ⟨b1, o1, rfl, hx⟩ := ha j hlt
  obtain ⟨b2, o2, rfl, hy⟩ := hb j (by omega)
  refine Y.k <| Y.q <| WP.block <| Y.q <| WP.rstill mixed (by kernel_rfl) H ?_
  clear H; intro w hbw6 H
  refine Y.v (Ev.mvS rfl) <| Y.v (Y.m rfl) <| Y.v (Y.x rfl rfl rfl rfl) <| Y.v (Y.c (H.ld0 (by assumption)) rfl) ?_
  refine Y.v (Ev.mvS rfl) <| Y.v (Y.m rfl) <| Y.v (Y.x rfl rfl rfl rfl) <| Y.v (Y.c (H.ld0 (by assumption)) rfl) ?_
  refine Y.v (Ev.neq rfl rfl) <| OPS.nil_s ?_
  refine WP.cond rfl (fun hc6 => ?_) (fun hc6 => ?_)
  ·refine Y.qr <| Y.v (Ev.asB rfl) <| Y.z ?_
   refine WP.ret ⟨_, rfl, ?_⟩
   have hne : a[j] ≠ b[j]'(by omega) := by simpa using hc6
   have h : a ≠ b := by
    rintro rfl
    exact hne rfl
   exact ⟨by rw [decide_eq_false h]; rfl, H.below⟩
  have hne : a[j] = b[j]'(by omega) := by simpa using hc6
  refine Y.k <| Y.r <| Y.v (Y.m rfl) <| Y.v (Y.p rfl rfl) <| Y.v (Ev.asI rfl) <| Y.z ?_
  refine ⟨(by repeat (first | exact Agree.refl _ _ | exact Agree.mix _ _ _ | refine Agree.upd rfl ?_ | refine Agree.mix2 rfl ?_)), k - 1, by omega, j + 1, by omega, rfl, fun i h h2 hij => ?_, H⟩
  rcases Nat.lt_succ_iff_lt_or_eq.1 hij with h3 | rfl
  ·exact hall i h h2 h3
  ·exact hne
 refine WP.exit <| XB.hit <| Y.qr <| Y.v (Ev.asB rfl) <| Y.z ?_
 refine WP.ret ⟨_, rfl, ?_⟩
 have hj : j = a.length := by simp at hc4; omega
 have h : a = b := List.ext_getElem hlen fun i h h2 => hall i h h2 (by omega)
 exact ⟨by rw [decide_eq_true h]; rfl, H.below⟩
theorem rtL_len (rs : List Rt) : (rtL rs).length = rs.length := by simp [rtL]
set_option maxHeartbeats 4000000 in
theorem r45Same (P F P2 F2 : Option Addr) (rs rs2 : List Rt) (left left2 : List Int) (cp cf cp2 cf2 : Nat) (w0 : World)
  (hP : RowsAt 2 rtCells w0 P rs) (hI : ∀ r ∈ rs, IntsAt w0 r.nd.A r.nd.l) (hF : IntsAt w0 F left) (hP2 : RowsAt 2 rtCells w0 P2 rs2) (hI2 : ∀ r ∈ rs2, IntsAt w0 r.nd.A r.nd.l) (hF2 : IntsAt w0 F2 left2)
  (hl : rs.length ≤ 1000 ∧ left.length ≤ 1000 ∧ ∀ r ∈ rs, r.nd.l.length ≤ 1000) (hl2 : rs2.length ≤ 1000 ∧ left2.length ≤ 1000 ∧ ∀ r ∈ rs2, r.nd.l.length ≤ 1000) :
  Calls Tryz.prog 13 #[.agg #[.slice P rs.length cp, .slice F left.length cf], .agg #[.slice P2 rs2.length cp2, .slice F2 left2.length cf2]] w0 fun e w' => e = .returned (.bool (decide (rtL rs = rtL rs2 ∧ left = left2))) ∧ Below w0.heap.size w0 w' := by
 have H := SH.refl w0
 obtain ⟨hl1, hlf, hlr⟩ := hl
 obtain ⟨hm1, hmf, hmr⟩ := hl2
 refine Calls.ofWP Tryz.func13 rfl Tryz.results13 Tryz.ntmps13 rfl <| Y.qr <| Y.bx (cA rfl) H ?_
 clear H; intro g2 w H
 refine Y.bx (cA rfl) H ?_
 clear H; intro g3 w H
 refine Y.v (Ev.asB rfl) <| Y.z <| Y.q <| Y.qr <| Y.v (Y.f rfl rfl) <| Y.v (Y.l H 1 rfl rfl rfl) <| Y.v (Y.n rfl) <| Y.v (Y.f rfl rfl) <| Y.v (Y.l H 0 rfl rfl rfl) <| Y.v (Y.n rfl) <| Y.v (Ev.neq rfl rfl) <| Y.v (Ev.mvB rfl) <| Y.g rfl rfl (fun hg => Y.f rfl rfl) <| Y.g rfl rfl (fun hg => Ev.load1 (agg_run rfl) (gvE hg rfl) (H.ldL 1 rfl _ rfl)) <| Y.g rfl rfl (fun hg => Y.f rfl rfl) <| Y.g rfl rfl (fun hg => Ev.load1 (agg_run rfl) (gvE hg rfl) (H.ldL 0 rfl _ rfl)) <| OPS.gcall0 (f := 35) (r45Ints F F2 left left2 cf cf2 w (hF.sh H) (hF2.sh H) hlf hmf) (fun _ _ h => h) rfl rfl rfl rfl rfl (fun hg => EvC.conv (EvC.func (fun_run rfl)) (l2 (gvE hg rfl) (gvE hg rfl))) ?_
 intro w hbc; replace H := H.toBelow hbc
 refine Y.g rfl rfl (fun hg => Ev.not (gvE hg rfl)) <| Y.v (Ev.pickOr rfl rfl rfl) <| Y.z ?_
 refine WP.cond rfl (fun hc1 => ?_) (fun hc1 => ?_)
 ·refine Y.qr <| Y.v (Ev.asB rfl) <| Y.z ?_
  refine WP.ret ⟨_, rfl, ?_⟩
  have h : ¬ (rtL rs = rtL rs2 ∧ left = left2) := by
   rintro ⟨h1, h2⟩
   have h3 := congrArg List.length h1
   rw [rtL_len, rtL_len] at h3
   simp [h2, h3] at hc1
  exact ⟨by rw [decide_eq_false h]; rfl, H.below⟩
 have hg : rs.length = rs2.length ∧ left = left2 := by
  simp at hc1
  exact ⟨by omega, hc1.2⟩
 obtain ⟨hlen, hle⟩ := hg
 refine Y.k <| Y.q <| Y.qr <| Y.v (Ev.asI rfl) <| Y.z <| WP.block <| WP.loop [4, 5, 21, 22, 23, 24, 25, 26, 27, 28, 29, 30, 31, 32, 33, 34, 35, 36, 37, 38, 39, 40, 41, 42, 43, 44, 45, 46, 47, 48, 49, 50, 51, 52, 53, 54, 55, 56] (fun k e w' => ∃ j : Nat, j + k = rs.length ∧ e 5 = I j ∧ (∀ i (h : i < rs.length) (h2 : i < rs2.length), i < j → rs[i].trk = rs2[i].trk ∧ rs[i].nd.l = rs2[i].nd.l) ∧ SH w0 [] w' [⟨g3, 34, [.slice P2 rs2.length cp2, .slice F2 left2.length cf2]⟩, ⟨g2, 34, [.slice P rs.length cp, .slice F left.length cf]⟩]) (rs.length) (⟨0, by omega, rfl, fun i _ _ h => absurd h (by omega), H⟩) ?_
 clear H
 rintro k u w ⟨j, hk, h5, hall, H⟩
 refine WP.know (t := 5) h5 <| Y.q <| Y.qr <| Y.v (Y.m rfl) <| Y.v (Y.f rfl rfl) <| Y.v (Y.l H 1 rfl rfl rfl) <| Y.v (Y.n rfl) <| Y.v (Ev.lss rfl rfl) <| Y.z ?_
 refine WP.cond rfl (fun hc4 => ?_) (fun hc4 => ?_)
 ·have hlt : j < rs.length := by simpa using hc4
  have hlt2 : j < rs2.length := by omega
  obtain ⟨b1, o1, rfl, hx⟩ := hP j hlt
  obtain ⟨b2, o2, rfl, hy⟩ := hP2 j hlt2
  have hr1 := hI rs[j] (List.getElem_mem hlt)
  have hr2 := hI2 rs2[j] (List.getElem_mem hlt2)
  have hn1 := hlr rs[j] (List.getElem_mem hlt)
  have hn2 := hmr rs2[j] (List.getElem_mem hlt2)
  obtain ⟨q1, q2, _⟩ := hx
  obtain ⟨q3, q4, _⟩ := hy
  generalize hra : rs[j] = ra at *
  generalize hrb : rs2[j] = rb at *
  refine Y.k <| Y.q <| WP.block <| Y.q <| WP.rquiet mixed (by kernel_rfl) H ?_
  clear H; intro w hbw6 H
  refine Y.v (Y.f rfl rfl) <| Y.v (Y.l H 1 rfl rfl rfl) <| Y.v (Y.m rfl) <| Y.v (Y.X rfl rfl rfl rfl rfl) <| Y.v (Y.f rfl rfl) <| Y.v (Y.c (H.ld0 (by assumption)) rfl) ?_
  refine Y.v (Y.f rfl rfl) <| Y.v (Y.l H 0 rfl rfl rfl) <| Y.v (Y.m rfl) <| Y.v (Y.X rfl rfl rfl rfl rfl) <| Y.v (Y.f rfl rfl) <| Y.v (Y.c (H.ld0 (by assumption)) rfl) ?_
  refine Y.v (Ev.neq rfl rfl) <| Y.v (Ev.mvB rfl) <| Y.g rfl rfl (fun hg => Y.f rfl rfl) <| Y.g rfl rfl (fun hg => Ev.load1 (agg_run rfl) (gvE hg rfl) (H.ldL 1 rfl _ rfl)) <| Y.g rfl rfl (fun hg => Y.m rfl) <| Y.g rfl rfl (fun hg => Ev.indexAddr (el_run rfl) (size_run rfl) (gvE hg rfl) (gvE hg rfl) rfl (by omega)) <| Y.g rfl rfl (fun hg => Ev.fieldAddr (fld_run rfl) (gvE hg rfl)) <| Y.g rfl rfl (fun hg => Ev.load1 (agg_run rfl) (gvE hg rfl) (H.ld0 (by assumption))) ?_
  refine Y.g rfl rfl (fun hg => Y.f rfl rfl) <| Y.g rfl rfl (fun hg => Ev.load1 (agg_run rfl) (gvE hg rfl) (H.ldL 0 rfl _ rfl)) <| Y.g rfl rfl (fun hg => Y.m rfl) <| Y.g rfl rfl (fun hg => Ev.indexAddr (el_run rfl) (size_run rfl) (gvE hg rfl) (gvE hg rfl) rfl (by omega)) <| Y.g rfl rfl (fun hg => Ev.fieldAddr (fld_run rfl) (gvE hg rfl)) <| Y.g rfl rfl (fun hg => Ev.load1 (agg_run rfl) (gvE hg rfl) (H.ld0 (by assumption))) ?_
  refine OPS.gcallq2 (f := 35) (fun hg w2 hb2 => r45Ints ra.nd.A rb.nd.A ra.nd.l rb.nd.l ra.nd.cap rb.nd.cap w2 ((hr1.sh H).below hb2) ((hr2.sh H).below hb2) hn1 hn2) rfl rfl rfl rfl rfl (fun hg => EvC.conv (EvC.func (fun_run rfl)) (l2 (gvE hg rfl) (gvE hg rfl))) ?_
  refine Y.g rfl rfl (fun hg => Ev.not (gvE hg rfl)) <| Y.v (Ev.pickOr rfl rfl rfl) <| OPS.nilq H ?_
  clear H; intro w hbx6 H
  refine WP.cond rfl (fun hc6 => ?_) (fun hc6 => ?_)
  ·refine Y.qr <| Y.v (Ev.asB rfl) <| Y.z ?_
   refine WP.ret ⟨_, rfl, ?_⟩
   have h : ¬ (rtL rs = rtL rs2 ∧ left = left2) := by
    rintro ⟨h1, _⟩
    have h3 : (rtL rs)[j]'(by rw [rtL_len]; exact hlt) = (rtL rs2)[j]'(by rw [rtL_len]; exact hlt2) := by simp only [h1]
    simp only [rtL, List.getElem_map, hra, hrb, Prod.mk.injEq] at h3
    simp [h3.1, h3.2] at hc6
   exact ⟨by rw [decide_eq_false h]; rfl, H.below⟩
  have hne : ra.trk = rb.trk ∧ ra.nd.l = rb.nd.l := by
   simp at hc6
   exact hc6
  refine Y.k <| Y.r <| Y.v (Y.m rfl) <| Y.v (Y.p rfl rfl) <| Y.v (Ev.asI rfl) <| Y.z ?_
  refine ⟨(by repeat (first | exact Agree.refl _ _ | exact Agree.mix _ _ _ | refine Agree.upd rfl ?_ | refine Agree.mix2 rfl ?_)), k - 1, by omega, j + 1, by omega, rfl, fun i h h2 hij => ?_, H⟩
  rcases Nat.lt_succ_iff_lt_or_eq.1 hij with h3 | rfl
  ·exact hall i h h2 h3
  ·rw [hra, hrb]; exact hne
 refine WP.exit <| XB.hit <| Y.qr <| Y.v (Ev.asB rfl) <| Y.z ?_
 refine WP.ret ⟨_, rfl, ?_⟩
 have hj : j = rs.length := by simp at hc4; omega
 have h : rtL rs = rtL rs2 := List.ext_getElem (by rw [rtL_len, rtL_len]; exact hlen) fun i h h2 => by
  rw [rtL_len] at h h2
  have := hall i h h2 (by omega)
  simp only [rtL, List.getElem_map]
  rw [this.1, this.2]
 have hh : rtL rs = rtL rs2 ∧ left = left2 := ⟨h, hle⟩
 exact ⟨by rw [decide_eq_true hh]; rfl, H.below⟩
def few45 (a b c : Nat) : Bool := decide (c ≤ 9) && (decide (b ≤ 4) && decide (a ≤ 60))
theorem law45Few (n hd : Int) (A B C : Option Addr) (ll tl nl ca cb cc : Nat) (w0 : World) :
  Calls Tryz.prog 9 #[.agg #[I n, .slice A ll ca, .slice B tl cb, .slice C nl cc, I hd]] w0 fun e w' => e = .returned (.bool (few45 ll tl nl)) ∧ Below w0.heap.size w0 w' := by
 have H := SH.refl w0
 refine Calls.ofWP Tryz.func9 rfl Tryz.results9 Tryz.ntmps9 rfl <| Y.qr <| Y.bx (cA rfl) H ?_
 clear H; intro g1 w H
 refine Y.v (Ev.asB rfl) <| Y.z <| Y.qr <| Y.v (Y.f rfl rfl) <| Y.v (Y.l H 0 rfl rfl rfl) <| Y.v (Y.n rfl) <| Y.v (Ev.leq rfl rfl) <| Y.v (Ev.mvB rfl) <| Y.g rfl rfl (fun hg => Y.f rfl rfl) <| Y.g rfl rfl (fun hg => Ev.load1 (agg_run rfl) (gvE hg rfl) (H.ldL 0 rfl _ rfl)) <| Y.g rfl rfl (fun hg => Ev.len (el_run rfl) (gvE hg rfl)) <| Y.g rfl rfl (fun hg => Ev.leq (gvE hg rfl) rfl) <| Y.v (Ev.pickAnd rfl rfl rfl) <| Y.v (Ev.mvB rfl) <| Y.g rfl rfl (fun hg => Y.f rfl rfl) <| Y.g rfl rfl (fun hg => Ev.fieldAddr (fld_run rfl) (gvE hg rfl)) <| Y.g rfl rfl (fun hg => Ev.load1 (agg_run rfl) (gvE hg rfl) (H.ldL 0 rfl _ rfl)) <| Y.g rfl rfl (fun hg => Ev.len (el_run rfl) (gvE hg rfl)) <| Y.g rfl rfl (fun hg => Ev.leq (gvE hg rfl) rfl) <| Y.v (Ev.pickAnd rfl rfl rfl) <| Y.v (Ev.asB rfl) <| Y.z ?_
 refine WP.ret ⟨_, rfl, ?_⟩
 refine ⟨ret_b rfl ?_, H.below⟩
 unfold few45
 grind
def small45 (rs : List Rt) (fl : Nat) : Bool := decide (rs.length ≤ 6) && (decide (fl ≤ 10) && decide (∀ r ∈ rs, r.nd.l.length ≤ 10))
set_option maxHeartbeats 1000000 in
theorem law45Small (P F : Option Addr) (rs : List Rt) (fl cp cf : Nat) (w0 : World) (hP : RowsAt 2 rtCells w0 P rs) :
  Calls Tryz.prog 14 #[.agg #[.slice P rs.length cp, .slice F fl cf]] w0 fun e w' => e = .returned (.bool (small45 rs fl)) ∧ Below w0.heap.size w0 w' := by
 have H := SH.refl w0
 refine Calls.ofWP Tryz.func14 rfl Tryz.results14 Tryz.ntmps14 rfl <| Y.qr <| Y.bx (cA rfl) H ?_
 clear H; intro g1 w H
 refine Y.v (Ev.asB rfl) <| Y.z <| Y.q <| Y.qr <| Y.v (Y.f rfl rfl) <| Y.v (Y.l H 0 rfl rfl rfl) <| Y.v (Y.n rfl) <| Y.v (Ev.gtr rfl rfl) <| Y.v (Ev.mvB rfl) <| Y.g rfl rfl (fun hg => Y.f rfl rfl) <| Y.g rfl rfl (fun hg => Ev.load1 (agg_run rfl) (gvE hg rfl) (H.ldL 0 rfl _ rfl)) <| Y.g rfl rfl (fun hg => Ev.len (el_run rfl) (gvE hg rfl)) <| Y.g rfl rfl (fun hg => Ev.gtr (gvE hg rfl) rfl) <| Y.v (Ev.pickOr rfl rfl rfl) <| Y.z ?_
 refine WP.cond rfl (fun hc1 => ?_) (fun hc1 => ?_)
 ·refine Y.qr <| Y.v (Ev.asB rfl) <| Y.z ?_
  refine WP.ret ⟨_, rfl, ?_⟩
  refine ⟨ret_b rfl ?_, H.below⟩
  unfold small45
  simp at hc1
  grind
 have hg : rs.length ≤ 6 ∧ fl ≤ 10 := by
  simp at hc1
  omega
 refine Y.k <| Y.q <| Y.qr <| Y.v (Ev.asI rfl) <| Y.z <| WP.block <| WP.loop [2, 3, 14, 15, 16, 17, 18, 19, 20, 21, 22, 23, 24, 25, 26, 27, 28] (fun k e w' => ∃ j : Nat, j + k = rs.length ∧ e 3 = I j ∧ (∀ i (h : i < rs.length), i < j → rs[i].nd.l.length ≤ 10) ∧ SH w0 [] w' [⟨g1, 34, [.slice P rs.length cp, .slice F fl cf]⟩]) (rs.length) (⟨0, by omega, rfl, fun i _ h => absurd h (by omega), H⟩) ?_
 clear H
 rintro k u w ⟨j, hk, h3, hall, H⟩
 refine WP.know (t := 3) h3 <| Y.q <| Y.qr <| Y.v (Y.m rfl) <| Y.v (Y.f rfl rfl) <| Y.v (Y.l H 0 rfl rfl rfl) <| Y.v (Y.n rfl) <| Y.v (Ev.lss rfl rfl) <| Y.z ?_
 refine WP.cond rfl (fun hc4 => ?_) (fun hc4 => ?_)
 ·have hlt : j < rs.length := by simpa using hc4
  obtain ⟨b1, o1, rfl, hx⟩ := hP j hlt
  obtain ⟨q1, q2, _⟩ := hx
  refine Y.k <| Y.q <| WP.block <| Y.qr <| Y.v (Y.f rfl rfl) <| Y.v (Y.l H 0 rfl rfl rfl) <| Y.v (Y.m rfl) <| Y.v (Y.X rfl rfl rfl rfl rfl) <| Y.v (Y.f rfl rfl) <| Y.v (Y.c (H.ld0 (by assumption)) rfl) ?_
  refine Y.v (Y.n rfl) <| Y.v (Ev.gtr rfl rfl) <| Y.z ?_
  refine WP.cond rfl (fun hc6 => ?_) (fun hc6 => ?_)
  ·refine Y.qr <| Y.v (Ev.asB rfl) <| Y.z ?_
   refine WP.ret ⟨_, rfl, ?_⟩
   have hne : ¬ rs[j].nd.l.length ≤ 10 := by simp at hc6; omega
   have h : small45 rs fl = false := by
    unfold small45
    rw [decide_eq_false (p := ∀ r ∈ rs, r.nd.l.length ≤ 10) fun h => hne (h _ (List.getElem_mem hlt))]
    simp
   exact ⟨by rw [h]; rfl, H.below⟩
  have hne : rs[j].nd.l.length ≤ 10 := by simp at hc6; omega
  refine Y.k <| Y.r <| Y.v (Y.m rfl) <| Y.v (Y.p rfl rfl) <| Y.v (Ev.asI rfl) <| Y.z ?_
  refine ⟨(by repeat (first | exact Agree.refl _ _ | exact Agree.mix _ _ _ | refine Agree.upd rfl ?_ | refine Agree.mix2 rfl ?_)), k - 1, by omega, j + 1, by omega, rfl, fun i h hij => ?_, H⟩
  rcases Nat.lt_succ_iff_lt_or_eq.1 hij with h3 | rfl
  ·exact hall i h h3
  ·exact hne
 refine WP.exit <| XB.hit <| Y.qr <| Y.v (Ev.asB rfl) <| Y.z ?_
 refine WP.ret ⟨_, rfl, ?_⟩
 have hj : j = rs.length := by simp at hc4; omega
 have h : small45 rs fl = true := by
  unfold small45
  rw [decide_eq_true hg.1, decide_eq_true hg.2, decide_eq_true]
  ·rfl
  ·intro r hr
   obtain ⟨i, hi, rfl⟩ := List.mem_iff_getElem.1 hr
   exact hall i hi (by omega)
 exact ⟨by rw [h]; rfl, H.below⟩
def townV (c : Int) (ga gb gc : Nat) : List Value := [I 3, .slice (some ⟨ga, 0, none⟩) 6 6, .slice (some ⟨gb, 0, none⟩) 1 1, .slice (some ⟨gc, 0, none⟩) 2 2, I 10]
set_option maxHeartbeats 1000000 in
theorem law45Town (c : Int) (w0 : World) : Calls Tryz.prog 24 #[I c] w0 fun e w' => ∃ ga gb gc : Nat, e = .returned (.agg (townV c ga gb gc).toArray) ∧ SH w0 [] w' [⟨ga, 85, tL.flatMap edgCells⟩, ⟨gb, 81, (tT c).flatMap truckCells⟩, ⟨gc, 68, tN.flatMap needCells⟩] := by
 have H := SH.refl w0
 refine Calls.ofWPc Tryz.func24 rfl Tryz.results24 Tryz.ntmps24 rfl <| Y.qr <| Y.al H rfl rfl ?_
 clear H; intro g2 w H
 refine Y.z <| Y.qr <| Y.v (Ev.build (bld_85_0_1_2 rfl rfl rfl)) <| Y.v (Ev.build (bld_85_0_1_2 rfl rfl rfl)) <| Y.v (Ev.build (bld_85_0_1_2 rfl rfl rfl)) <| Y.v (Ev.build (bld_85_0_1_2 rfl rfl rfl)) <| Y.v (Ev.build (bld_85_0_1_2 rfl rfl rfl)) <| Y.v (Ev.build (bld_85_0_1_2 rfl rfl rfl)) <| OPS.buildSlice rfl rfl rfl rfl (bsl_22_6_0_1_2_3_4_5 rfl rfl rfl rfl rfl rfl) H ?_
 clear H; intro g10 w H
 refine Y.v (Ev.build (bld_24_0_1 rfl rfl)) <| Y.al H rfl rfl ?_
 clear H; intro g3 w H
 refine Y.st 0 H rfl (cA rfl) rfl ?_
 clear H; intro w H; try simp only [List.set_cons_zero, List.set_cons_succ, putL, Nat.zero_add] at H
 refine Y.z <| Y.qr <| Y.v (Y.o H 0 rfl rfl) <| Y.v (Y.m rfl) <| Y.v (Ev.build (bld_79_1 rfl)) <| Y.v (Ev.build (bld_81_1_2 rfl rfl)) <| OPS.buildSlice rfl rfl rfl rfl (bsl_25_1_0 rfl) H ?_
 clear H; intro g16 w H
 refine Y.v (Ev.build (bld_68_0_1 rfl rfl)) <| Y.v (Ev.build (bld_68_0_1 rfl rfl)) <| OPS.buildSlice rfl rfl rfl rfl (bsl_26_2_0_1 rfl rfl) H ?_
 clear H; intro g19 w H
 refine Y.v (Ev.build (bld_28_0_1_2_3 rfl rfl rfl rfl)) <| Y.st 4 H rfl (cA rfl) rfl ?_
 clear H; intro w H; try simp only [List.set_cons_zero, List.set_cons_succ, putL, Nat.zero_add] at H
 refine Y.z ?_
 refine WP.ret ⟨[_], ⟨(by exact resCellA 4 H rfl (agg_run rfl) (size_run rfl) (by rfl) rfl), trivial⟩, ?_⟩
 exact ⟨g10, g16, g19, rfl, H.reidx [3, 1, 0] (by decide) rfl⟩
end Go.Proofs.YtgcokllbophkkaaGreat

/-
 Walk: the examples of the chapter (awake).
-/
set_option linter.all false
namespace Go.Proofs.YtgcokllbophkkaaGreat
open Go Go.W Go.RowKit
theorem townAt {w0 w : World} {S : List Nat} {c : Int} {ga gb gc : Nat} (H : SH w0 S w [⟨ga, 85, tL.flatMap edgCells⟩, ⟨gb, 81, (tT c).flatMap truckCells⟩, ⟨gc, 68, tN.flatMap needCells⟩]) : NightAt w (some ⟨ga, 0, none⟩) (some ⟨gb, 0, none⟩) (some ⟨gc, 0, none⟩) tL (tT c) tN 2 :=
 ⟨rowsOwn' (enc := edgCells) (sz := 3) (l := tL) (fun _ => rfl) H 0 rfl, rowsOwn' (enc := truckCells) (sz := 4) (l := tT c) (fun _ => rfl) H 1 rfl, rowsOwn' (enc := needCells) (sz := 2) (l := tN) (fun _ => rfl) H 2 rfl, by decide⟩
theorem townMake10 (ga gb gc : Nat) (w0 : World) (hN : NightAt w0 (some ⟨ga, 0, none⟩) (some ⟨gb, 0, none⟩) (some ⟨gc, 0, none⟩) tL (tT 10) tN 2) : Calls Tryz.prog 11 #[.agg (townV 10 ga gb gc).toArray] w0 fun e w' =>
  ∃ (r : Rt) (P F : Option Addr) (cp cf : Nat) (L : List Blk), e = .returned (.tuple #[.agg #[.slice P 1 cp, .slice F 0 cf], I 0]) ∧ (r.trk = 0 ∧ r.nd.l = [0, 1]) ∧ Reads L (fun w => RtsAt w P [r] ∧ IntsAt w F []) ∧ SH w0 [] w' L := by
 refine (rebMake 3 10 _ _ _ tL (tT 10) tN 6 1 2 w0 hN).mono ?_
 rintro e w' ⟨er, rs, left, P, F, cp, cf, L, rfl, hA, _, hR, hS⟩
 obtain ⟨rfl, h2, rfl⟩ := tMk10 hA
 obtain ⟨r, rfl, h3⟩ : ∃ r, rs = [r] ∧ r.trk = 0 ∧ r.nd.l = [0, 1] := by
  unfold rtL at h2
  cases rs with
  | nil => cases h2
  | cons r rs =>
   cases rs with
   | nil => simp at h2; exact ⟨r, rfl, h2⟩
   | cons r' rs => simp at h2
 exact ⟨r, P, F, cp, cf, L, rfl, h3, hR, hS⟩
theorem townMake7 (ga gb gc : Nat) (w0 : World) (hN : NightAt w0 (some ⟨ga, 0, none⟩) (some ⟨gb, 0, none⟩) (some ⟨gc, 0, none⟩) tL (tT 7) tN 2) : Calls Tryz.prog 11 #[.agg (townV 7 ga gb gc).toArray] w0 fun e w' =>
  ∃ (P F : Option Addr) (cp cf : Nat) (L : List Blk), e = .returned (.tuple #[.agg #[.slice P 0 cp, .slice F 2 cf], I 0]) ∧ Reads L (fun w => RtsAt w P [] ∧ IntsAt w F [0, 1]) ∧ SH w0 [] w' L := by
 refine (rebMake 3 10 _ _ _ tL (tT 7) tN 6 1 2 w0 hN).mono ?_
 rintro e w' ⟨er, rs, left, P, F, cp, cf, L, rfl, hA, _, hR, hS⟩
 obtain ⟨rfl, h2, rfl⟩ := tMk7 hA
 obtain rfl : rs = [] := by
  unfold rtL at h2
  exact List.map_eq_nil_iff.1 h2
 exact ⟨P, F, cp, cf, L, rfl, hR, hS⟩
section
variable (ga gb gc : Nat) (P F P2 F2 : Option Addr) (r : Rt) (cp cf cp2 cf2 : Nat) (w0 : World)
theorem townGap (hN : NightAt w0 (some ⟨ga, 0, none⟩) (some ⟨gb, 0, none⟩) (some ⟨gc, 0, none⟩) tL (tT 10) tN 2) (hr : r.trk = 0 ∧ r.nd.l = [0, 1]) (hP : RtsAt w0 P [r]) (hF : IntsAt w0 F []) : Calls Tryz.prog 17 #[.agg (townV 10 ga gb gc).toArray, .agg #[.slice P 1 cp, .slice F 0 cf]] w0 fun e w' =>
  e = .returned (.tuple #[I 155, I 0]) ∧ Below w0.heap.size w0 w' := by
 refine (rebGap 3 10 _ _ _ P F tL (tT 10) tN [r] [] 6 1 2 cp cf w0 hN hP hF (by decide) (by decide)).mono ?_
 rintro e w' ⟨x, rfl, hA, hb⟩
 rw [tGapV hr.1 hr.2 hA, tGap hr.1 hr.2]
 exact ⟨rfl, hb⟩
theorem townBetter (hN : NightAt w0 (some ⟨ga, 0, none⟩) (some ⟨gb, 0, none⟩) (some ⟨gc, 0, none⟩) tL (tT 10) tN 2) (hP : RtsAt w0 P [r]) (hF : IntsAt w0 F []) : Calls Tryz.prog 19 #[.agg (townV 10 ga gb gc).toArray, .agg #[.slice P 1 cp, .slice F 0 cf], .agg #[.slice P 1 cp, .slice F 0 cf]] w0 fun e w' =>
  e = .returned (.bool false) ∧ Below w0.heap.size w0 w' := by
 refine (rebBetter 3 10 _ _ _ P F P F tL (tT 10) tN [r] [r] [] [] 6 1 2 cp cf cp cf w0 hN hP hF (by decide) hP hF (by decide) (by decide)).mono ?_
 rintro e w' ⟨rfl, hb⟩
 rw [betB_irr]
 exact ⟨rfl, hb⟩
theorem townValue (hN : NightAt w0 (some ⟨ga, 0, none⟩) (some ⟨gb, 0, none⟩) (some ⟨gc, 0, none⟩) tL (tT 7) tN 2) (hP : RtsAt w0 P []) (hF : IntsAt w0 F [0, 1]) : Calls Tryz.prog 15 #[.agg (townV 7 ga gb gc).toArray, .agg #[.slice P 0 cp, .slice F 2 cf]] w0 fun e w' =>
  e = .returned (.tuple #[I 13, I 0, I 0]) ∧ Below w0.heap.size w0 w' := by
 refine (rebValue 3 10 _ _ _ P F tL (tT 7) tN [] [0, 1] 6 1 2 cp cf w0 hN hP hF (by decide) (by decide)).mono ?_
 rintro e w' ⟨rfl, hb⟩
 rw [tVal7.1, tVal7.2, tPl7]
 exact ⟨rfl, hb⟩
end
set_option maxHeartbeats 4000000 in
theorem law45Awake (w0 : World) : Calls Tryz.prog 10 #[] w0 fun e w' => e = .returned (.bool true) ∧ Below w0.heap.size w0 w' := by
 have H := SH.refl w0
 refine Calls.ofWP Tryz.func10 rfl Tryz.results10 Tryz.ntmps10 rfl <| Y.qr <| Y.v (Ev.asB rfl) <| Y.z <| Y.qr <| OPS.call (d := some 11) rfl rfl rfl (EvC.func (fun_run rfl)) (law45Town 10 w0) ?_
 rintro _ w ⟨ga, gb, gc, rfl, Hc⟩
 refine ⟨_, rfl, ?_⟩
 replace H := Hc
 clear Hc
 refine OPS.call (d := some 12) rfl rfl rfl (EvC.func (fun_run rfl)) (townMake10 ga gb gc w (townAt H)) ?_
 rintro _ w ⟨r, P, F, cp, cf, L1, rfl, hr, hR1, Hc⟩
 refine ⟨_, rfl, ?_⟩
 replace H := SH.call (L1 := []) (Lv := []) (H.drop (List.nil_sublist _)) Hc
 clear Hc
 simp only [List.nil_append] at H
 refine Y.v (Ev.mvT rfl) <| Y.v (Ev.extract rfl rfl) <| Y.v (Ev.extract rfl rfl) <| Y.al H rfl rfl ?_
 clear H; intro g1 w H
 refine Y.st 0 H rfl (cA rfl) rfl ?_
 clear H; intro w H; try simp only [List.set_cons_zero, List.set_cons_succ, putL, Nat.zero_add] at H
 refine Y.v (Ev.asI rfl) <| Y.z <| Y.q ?_
 refine WP.rheldC [3, 4, 15, 16, 17, 18, 19, 20] (fun u w' => u 3 = I 155 ∧ u 4 = I 0 ∧ SH w0 [] w' (⟨g1, 34, [.slice P 1 cp, .slice F 0 cf]⟩ :: L1)) mixed H ?_ ?_
 ·clear H; intro w hbw2 H
  refine Y.t 1 H rfl rfl (fun w H => Y.o H 0 rfl rfl) ?_
  refine Y.A [0] rfl ⟨⟨_, rfl, ?_⟩, trivial⟩
  refine OPS.call (d := some 16) rfl rfl rfl (EvC.func (fun_run rfl)) (law45Town 10 _) ?_
  rintro _ w ⟨ga, gb, gc, rfl, Hc⟩
  refine ⟨_, rfl, ?_⟩
  have E := (SH.call (L1 := _) (Lv := []) (by rw [List.append_nil]; exact H) Hc).perm List.perm_append_comm
  clear Hc H
  have H := E.drop (L' := ⟨g1, 34, [.slice P 1 cp, .slice F 0 cf]⟩ :: L1) (List.sublist_append_right _ _)
  refine Y.z <| ⟨(H), ?_⟩
  refine Y.A [2] rfl ⟨⟨_, rfl, ?_⟩, trivial⟩
  refine OPS.call (d := some 18) rfl rfl rfl (EvC.func (fun_run rfl)) (townGap ga gb gc P F r cp cf w (townAt (E.drop (List.sublist_append_left _ _))) hr (hR1.at H (List.sublist_cons_self _ _)).1 (hR1.at H (List.sublist_cons_self _ _)).2) ?_
  rintro _ w ⟨rfl, hb⟩
  refine ⟨_, rfl, ?_⟩
  replace H := H.toBelow hb
  clear hb E
  refine Y.z <| ⟨(H), ?_⟩
  refine Y.t 3 H rfl rfl (fun w H => Ev.mvT rfl) <| Y.t 4 H rfl rfl (fun w H => Ev.extract rfl rfl) <| Y.t 5 H rfl rfl (fun w H => Ev.extract rfl rfl) <| Y.t 6 H rfl rfl (fun w H => Ev.asI rfl) <| Y.t 7 H rfl rfl (fun w H => Ev.asI rfl) <| OPH.done (by kernel_rfl) ?_
  exact ⟨(by repeat (first | exact Agree.refl _ _ | exact Agree.mix _ _ _ | refine Agree.upd rfl ?_ | refine Agree.mix2 rfl ?_)), rfl, rfl, H⟩
 clear H
 rintro u w ⟨h3, h4, H⟩
 refine WP.know (t := 3) h3 (WP.know (t := 4) h4 ?_)
 refine Y.qr <| OPS.call (d := some 22) rfl rfl rfl (EvC.func (fun_run rfl)) (law45Town 7 w) ?_
 rintro _ w ⟨ga, gb, gc, rfl, Hc⟩
 refine ⟨_, rfl, ?_⟩
 replace H := (SH.call (L1 := _) (Lv := []) (by rw [List.append_nil]; exact H) Hc).perm List.perm_append_comm
 clear Hc
 refine OPS.call (d := some 23) rfl rfl rfl (EvC.func (fun_run rfl)) (townMake7 ga gb gc w (townAt (H.drop (List.sublist_append_left _ _)))) ?_
 rintro _ w ⟨P2, F2, cp2, cf2, L2, rfl, hR2, Hc⟩
 refine ⟨_, rfl, ?_⟩
 replace H := SH.call (L1 := ⟨g1, 34, [.slice P 1 cp, .slice F 0 cf]⟩ :: L1) (Lv := []) (by rw [List.append_nil]; exact H.drop (List.sublist_append_right _ _)) Hc
 clear Hc
 simp only [List.cons_append] at H
 refine Y.v (Ev.mvT rfl) <| Y.v (Ev.extract rfl rfl) <| Y.v (Ev.extract rfl rfl) <| Y.al H rfl rfl ?_
 clear H; intro g5 w H
 refine Y.st 0 H rfl (cA rfl) rfl ?_
 clear H; intro w H; try simp only [List.set_cons_zero, List.set_cons_succ, putL, Nat.zero_add] at H
 refine Y.v (Ev.asI rfl) <| Y.z <| Y.q ?_
 refine WP.rheldC [7, 8, 9, 26, 27, 28, 29, 30, 31, 32] (fun u w' => u 7 = I 13 ∧ u 8 = I 0 ∧ u 9 = I 0 ∧ SH w0 [] w' (⟨g5, 34, [.slice P2 0 cp2, .slice F2 2 cf2]⟩ :: ⟨g1, 34, [.slice P 1 cp, .slice F 0 cf]⟩ :: (L1 ++ L2))) mixed H ?_ ?_
 ·clear H; intro w hbw4 H
  refine Y.t 1 H rfl rfl (fun w H => Y.o H 0 rfl rfl) ?_
  refine Y.A [0] rfl ⟨⟨_, rfl, ?_⟩, trivial⟩
  refine OPS.call (d := some 27) rfl rfl rfl (EvC.func (fun_run rfl)) (law45Town 7 _) ?_
  rintro _ w ⟨ga, gb, gc, rfl, Hc⟩
  refine ⟨_, rfl, ?_⟩
  have E := (SH.call (L1 := _) (Lv := []) (by rw [List.append_nil]; exact H) Hc).perm List.perm_append_comm
  clear Hc H
  have H := E.drop (L' := ⟨g5, 34, [.slice P2 0 cp2, .slice F2 2 cf2]⟩ :: ⟨g1, 34, [.slice P 1 cp, .slice F 0 cf]⟩ :: (L1 ++ L2)) (List.sublist_append_right _ _)
  refine Y.z <| ⟨(H), ?_⟩
  refine Y.A [2] rfl ⟨⟨_, rfl, ?_⟩, trivial⟩
  refine OPS.call (d := some 29) rfl rfl rfl (EvC.func (fun_run rfl)) (townValue ga gb gc P2 F2 cp2 cf2 w (townAt (E.drop (List.sublist_append_left _ _))) (hR2.at H Sb.out).1 (hR2.at H Sb.out).2) ?_
  rintro _ w ⟨rfl, hb⟩
  refine ⟨_, rfl, ?_⟩
  replace H := H.toBelow hb
  clear hb E
  refine Y.z <| ⟨(H), ?_⟩
  refine Y.t 3 H rfl rfl (fun w H => Ev.mvT rfl) <| Y.t 4 H rfl rfl (fun w H => Ev.extract rfl rfl) <| Y.t 5 H rfl rfl (fun w H => Ev.extract rfl rfl) <| Y.t 6 H rfl rfl (fun w H => Ev.extract rfl rfl) <| Y.t 7 H rfl rfl (fun w H => Ev.asI rfl) <| Y.t 8 H rfl rfl (fun w H => Ev.asI rfl) <| Y.t 9 H rfl rfl (fun w H => Ev.asI rfl) <| OPH.done (by kernel_rfl) ?_
  exact ⟨(by repeat (first | exact Agree.refl _ _ | exact Agree.mix _ _ _ | refine Agree.upd rfl ?_ | refine Agree.mix2 rfl ?_)), rfl, rfl, rfl, H⟩
 clear H
 rintro u w ⟨h7, h8, h9, H⟩
 refine WP.know (t := 7) h7 (WP.know (t := 8) h8 (WP.know (t := 9) h9 ?_))
 refine Y.q <| Y.qr <| Y.v (Y.m rfl) <| Y.v (Ev.neq rfl rfl) <| Y.v (Ev.mvB rfl) <| Y.g rfl rfl (fun hg => Y.m rfl) <| Y.g rfl rfl (fun hg => Ev.neq (gvE hg rfl) rfl) <| Y.v (Ev.pickOr rfl rfl rfl) <| Y.v (Ev.mvB rfl) <| Y.g rfl rfl (fun hg => Y.m rfl) <| Y.g rfl rfl (fun hg => Ev.neq (gvE hg rfl) rfl) <| Y.v (Ev.pickOr rfl rfl rfl) <| Y.v (Ev.mvB rfl) <| Y.g rfl rfl (fun hg => Y.m rfl) <| Y.g rfl rfl (fun hg => Ev.neq (gvE hg rfl) rfl) <| Y.v (Ev.pickOr rfl rfl rfl) <| Y.z ?_
 refine WP.cond rfl (fun hc5 => ?_) (fun hc5 => ?_)
 ·refine Y.qr <| Y.v (Ev.asB rfl) <| Y.z ?_
  refine WP.ret ⟨_, rfl, ?_⟩
  exact absurd hc5 (by simp)
 refine Y.k <| Y.q ?_
 refine WP.rheldC [0, 47, 48, 49, 50, 51, 52, 53, 54, 55, 56, 57, 58, 59, 60, 61, 62, 63, 64, 65, 66, 67, 68, 69, 70, 71, 72, 73, 74, 75, 76, 77] (fun u w' => u 0 = .bool true ∧ SH w0 [] w' (⟨g5, 34, [.slice P2 0 cp2, .slice F2 2 cf2]⟩ :: ⟨g1, 34, [.slice P 1 cp, .slice F 0 cf]⟩ :: (L1 ++ L2))) mixed H ?_ ?_
 ·clear H; intro w hbw7 H
  refine Y.t 0 H rfl rfl (fun w H => Y.o H 1 rfl rfl) ?_
  refine Y.A [1] rfl ⟨⟨_, rfl, ?_⟩, trivial⟩
  refine OPS.buildSlice rfl rfl rfl rfl (bsl_32_2_0_1 rfl rfl) H ?_
  clear H; intro g48 w E1
  have H := E1.drop (List.sublist_cons_self _ _)
  refine Y.z <| ⟨(H), ?_⟩
  refine Y.t 2 H rfl rfl (fun w H => Ev.build (bld_49_1 rfl)) ?_
  refine Y.A [3] rfl ⟨⟨_, rfl, ?_⟩, trivial⟩
  refine OPS.buildSlice rfl rfl rfl rfl (bsl_31_1_0 rfl) E1 ?_
  clear H; intro g50 w E2; clear E1
  have H := (E2.drop (List.sublist_cons_self _ _)).drop (List.sublist_cons_self _ _)
  refine Y.z <| ⟨(H), ?_⟩
  refine Y.t 4 H rfl rfl (fun w H => Ev.build (bld_34_0 rfl)) ?_
  refine Y.A [5] rfl ⟨⟨_, rfl, ?_⟩, trivial⟩
  refine OPS.call (d := some 52) rfl rfl rfl (EvC.func (fun_run rfl)) (r45Same P F (some ⟨g50, 0, none⟩) none [r] [⟨0, ⟨some ⟨g48, 0, none⟩, 2, [0, 1]⟩⟩] [] [] cp cf 1 0 w (hR1.at H Sb.out).1.rows (hR1.at H Sb.out).1.ints (hR1.at H Sb.out).2 (rowsOwn' (enc := rtCells) (sz := 2) (l := [⟨0, ⟨some ⟨g48, 0, none⟩, 2, [0, 1]⟩⟩]) rtCells_len E2 0 rfl) (fun x hx => by simp at hx; subst hx; exact onesOwn (l := [0, 1]) E2 1 rfl) OnesAt.nil (by simp [hr.2]) (by simp)) ?_
  rintro _ w ⟨rfl, hb⟩
  rw [show decide (rtL [r] = rtL [⟨0, ⟨some ⟨g48, 0, none⟩, 2, [0, 1]⟩⟩] ∧ ([] : List Int) = []) = true by simp [rtL, hr.1, hr.2]]
  refine ⟨_, rfl, ?_⟩
  replace H := H.toBelow hb
  clear hb E2
  refine Y.z <| ⟨(H), ?_⟩
  refine Y.t 6 H rfl rfl (fun w H => Ev.mvB rfl) <| OPH.takeY 7 rfl rfl rfl rfl rfl rfl (by kernel_rfl) (by kernel_rfl) (by kernel_rfl) rfl (H) (fun w H => Ev.mvI rfl) ?_
  refine OPH.takeY 8 rfl rfl rfl rfl rfl rfl (by kernel_rfl) (by kernel_rfl) (by kernel_rfl) rfl (H) (fun w H => Ev.eql rfl rfl) ?_
  refine Y.t 9 H rfl rfl (fun w H => Ev.pick (b := true) rfl) <| Y.t 10 H rfl rfl (fun w H => Ev.mvB rfl) <| OPH.takeY 11 rfl rfl rfl rfl rfl rfl (by kernel_rfl) (by kernel_rfl) (by kernel_rfl) rfl (H) (fun w H => (Ev.loadO 0 H rfl (agg_run rfl) (size_run rfl) rfl rfl)) ?_
  refine Y.A [12] rfl ⟨⟨_, rfl, ?_⟩, trivial⟩
  refine OPS.gyes rfl rfl rfl rfl <| OPS.buildSlice rfl rfl rfl rfl (bsl_32_2_0_1 rfl rfl) H ?_
  clear H; intro g59 w E1
  have H := E1.drop (List.sublist_cons_self _ _)
  refine Y.z <| ⟨(H), ?_⟩
  refine OPH.takeY 13 rfl rfl rfl rfl rfl rfl (by kernel_rfl) (by kernel_rfl) (by kernel_rfl) rfl (H) (fun w H => Ev.build (bld_34_1 rfl)) ?_
  refine Y.A [14] rfl ⟨⟨_, rfl, ?_⟩, trivial⟩
  refine OPS.gyes rfl rfl rfl rfl <| OPS.call (d := some 61) rfl rfl rfl (EvC.func (fun_run rfl)) (r45Same P2 F2 none (some ⟨g59, 0, none⟩) [] [] [0, 1] [0, 1] cp2 cf2 0 2 w (hR2.at H Sb.out).1.rows (hR2.at H Sb.out).1.ints (hR2.at H Sb.out).2 RowsAt.nil (by simp) (onesOwn (l := [0, 1]) E1 0 rfl) (by simp) (by simp)) ?_
  rintro _ w ⟨rfl, hb⟩
  rw [show decide (rtL [] = rtL [] ∧ ([0, 1] : List Int) = [0, 1]) = true by simp]
  refine ⟨_, rfl, ?_⟩
  replace H := H.toBelow hb
  clear hb E1
  refine Y.z <| ⟨(H), ?_⟩
  refine Y.t 15 H rfl rfl (fun w H => Ev.pick (b := true) rfl) <| Y.t 16 H rfl rfl (fun w H => Ev.mvB rfl) <| OPH.takeY 17 rfl rfl rfl rfl rfl rfl (by kernel_rfl) (by kernel_rfl) (by kernel_rfl) rfl (H) (fun w H => Ev.mvI rfl) ?_
  refine OPH.takeY 18 rfl rfl rfl rfl rfl rfl (by kernel_rfl) (by kernel_rfl) (by kernel_rfl) rfl (H) (fun w H => Ev.eql rfl rfl) ?_
  refine Y.t 19 H rfl rfl (fun w H => Ev.pick (b := true) rfl) <| Y.t 20 H rfl rfl (fun w H => Ev.mvB rfl) <| OPH.takeY 21 rfl rfl rfl rfl rfl rfl (by kernel_rfl) (by kernel_rfl) (by kernel_rfl) rfl (H) (fun w H => Ev.mvI rfl) ?_
  refine OPH.takeY 22 rfl rfl rfl rfl rfl rfl (by kernel_rfl) (by kernel_rfl) (by kernel_rfl) rfl (H) (fun w H => Ev.eql rfl rfl) ?_
  refine Y.t 23 H rfl rfl (fun w H => Ev.pick (b := true) rfl) <| Y.t 24 H rfl rfl (fun w H => Ev.mvB rfl) <| OPH.takeY 26 rfl rfl rfl rfl rfl rfl (by kernel_rfl) (by kernel_rfl) (by kernel_rfl) rfl (H) (fun w H => (Ev.loadO 1 H rfl (agg_run rfl) (size_run rfl) rfl rfl)) ?_
  refine OPH.takeY 27 rfl rfl rfl rfl rfl rfl (by kernel_rfl) (by kernel_rfl) (by kernel_rfl) rfl (H) (fun w H => (Ev.loadO 1 H rfl (agg_run rfl) (size_run rfl) rfl rfl)) ?_
  refine Y.A [25] rfl ⟨⟨_, rfl, ?_⟩, trivial⟩
  refine OPS.gyes rfl rfl rfl rfl <| OPS.call (d := some 72) rfl rfl rfl (EvC.func (fun_run rfl)) (law45Town 10 _) ?_
  rintro _ w ⟨ga, gb, gc, rfl, Hc⟩
  refine ⟨_, rfl, ?_⟩
  have E := (SH.call (L1 := _) (Lv := []) (by rw [List.append_nil]; exact H) Hc).perm List.perm_append_comm
  clear Hc H
  have H := E.drop (L' := ⟨g5, 34, [.slice P2 0 cp2, .slice F2 2 cf2]⟩ :: ⟨g1, 34, [.slice P 1 cp, .slice F 0 cf]⟩ :: (L1 ++ L2)) (List.sublist_append_right _ _)
  refine Y.z <| ⟨(H), ?_⟩
  refine Y.A [28] rfl ⟨⟨_, rfl, ?_⟩, trivial⟩
  refine OPS.gyes rfl rfl rfl rfl <| OPS.call (d := some 75) rfl rfl rfl (EvC.func (fun_run rfl)) (townBetter ga gb gc P F r cp cf w (townAt (E.drop (List.sublist_append_left _ _))) (hR1.at H Sb.out).1 (hR1.at H Sb.out).2) ?_
  rintro _ w ⟨rfl, hb⟩
  refine ⟨_, rfl, ?_⟩
  replace H := H.toBelow hb
  clear hb E
  refine Y.z <| ⟨(H), ?_⟩
  refine OPH.takeY 29 rfl rfl rfl rfl rfl rfl (by kernel_rfl) (by kernel_rfl) (by kernel_rfl) rfl (H) (fun w H => Ev.not rfl) ?_
  refine Y.t 30 H rfl rfl (fun w H => Ev.pick (b := true) rfl) <| Y.t 31 H rfl rfl (fun w H => Ev.asB rfl) <| OPH.done (by kernel_rfl) ?_
  exact ⟨(by repeat (first | exact Agree.refl _ _ | exact Agree.mix _ _ _ | refine Agree.upd rfl ?_ | refine Agree.mix2 rfl ?_)), rfl, H⟩
 clear H
 rintro u w ⟨h0, H⟩
 refine WP.know (t := 0) h0 ?_
 refine WP.ret ⟨_, rfl, ?_⟩
 exact ⟨rfl, H.below⟩
end Go.Proofs.YtgcokllbophkkaaGreat

/-
 Walks: the laws Makes, Values, Compares, Order, Bounded.
-/
set_option linter.all false
namespace Go.Proofs.YtgcokllbophkkaaGreat
open Go Go.W Go.RowKit
theorem RtsAt0.small {w : World} {A : Option Addr} {rs : List Rt} {fl : Nat} (h : RtsAt0 w A rs) (hs : small45 rs fl = true) : RtsAt w A rs ∧ rs.length ≤ 6 ∧ fl ≤ 10 := by
 unfold small45 at hs
 simp only [Bool.and_eq_true, decide_eq_true_eq] at hs
 exact ⟨⟨h.rows, h.ints, h.cap, fun r hr => by have := hs.2.2 r hr; omega, by omega⟩, hs.1, hs.2.1⟩
theorem few45_nl {a b c : Nat} (h : few45 a b c = true) : c ≤ 9 ∧ b ≤ 4 := by
 unfold few45 at h
 simp only [Bool.and_eq_true, decide_eq_true_eq] at h
 exact ⟨h.1, h.2.1⟩
set_option maxHeartbeats 2000000 in
theorem law45Values (n hd : Int) (A B C : Option Addr) (l : List Edg) (ts : List Truck) (ns : List Need) (ca cb cc : Nat) (P F : Option Addr) (rs : List Rt) (left : List Int) (cp cf : Nat) (w0 : World) (hN : NightAt w0 A B C l ts ns cc) (hP : RtsAt0 w0 P rs) (hF : IntsAt w0 F left) :
  Calls Tryz.prog 4 #[.agg #[I n, .slice A l.length ca, .slice B ts.length cb, .slice C ns.length cc, I hd], .agg #[.slice P rs.length cp, .slice F left.length cf]] w0 fun e w' => e = .returned (.bool true) ∧ Below w0.heap.size w0 w' := by
 have H := SH.refl w0
 refine Calls.ofWP Tryz.func4 rfl Tryz.results4 Tryz.ntmps4 rfl <| Y.qr <| Y.bx (cA rfl) H ?_
 clear H; intro g2 w H
 refine Y.bx (cA rfl) H ?_
 clear H; intro g3 w H
 refine Y.v (Ev.asB rfl) <| Y.z <| Y.q <| Y.qr <| Y.v (Y.o H 1 rfl rfl) <| OPS.call (d := some 16) rfl rfl rfl (EvC.func (fun_run rfl)) (law45Few n hd A B C l.length ts.length ns.length ca cb cc w) ?_
 rintro _ w ⟨rfl, hb⟩
 refine ⟨_, rfl, ?_⟩
 replace H := H.toBelow hb; clear hb
 refine Y.v (Ev.not rfl) <| Y.v (Ev.mvB rfl) <| Y.g rfl rfl (fun hg => Y.o H 0 rfl rfl) <| OPS.gcall0 (f := 14) (law45Small P F rs left.length cp cf w (hP.rows.sh H)) (fun _ _ h => h) rfl rfl rfl rfl rfl (fun hg => EvC.conv (EvC.func (fun_run rfl)) (l1 (gvE hg rfl))) ?_
 intro w hbc; replace H := H.toBelow hbc
 refine Y.g rfl rfl (fun hg => Ev.not (gvE hg rfl)) <| Y.v (Ev.pickOr rfl rfl rfl) <| Y.z ?_
 refine WP.cond rfl (fun hc1 => ?_) (fun hc1 => ?_)
 ·refine Y.qr <| OPS.call (d := some 23) rfl rfl rfl (EvC.func (fun_run rfl)) (law45Awake w) ?_
  rintro _ w ⟨rfl, hb⟩
  refine ⟨_, rfl, ?_⟩
  replace H := H.toBelow hb; clear hb
  refine Y.v (Ev.asB rfl) <| Y.z ?_
  refine WP.ret ⟨_, rfl, ?_⟩
  exact ⟨rfl, H.below⟩
 have hg : few45 l.length ts.length ns.length = true ∧ small45 rs left.length = true := by simpa using hc1
 obtain ⟨hS, _, hl⟩ := hP.small hg.2
 have hnl : ns.length ≤ 1000 := by have := few45_nl hg.1; omega
 replace hl : left.length ≤ 1000 := by omega
 refine Y.k <| Y.qr <| Y.v (Y.o H 1 rfl rfl) <| Y.v (Y.o H 0 rfl rfl) <| OPS.call (d := some 27) rfl rfl rfl (EvC.func (fun_run rfl)) (rebValue n hd A B C P F l ts ns rs left ca cb cc cp cf w (hN.sh H) (hS.sh H) (hF.sh H) hl hnl) ?_
 rintro _ w ⟨rfl, hb⟩
 refine ⟨_, rfl, ?_⟩
 replace H := H.toBelow hb; clear hb
 refine Y.v (Ev.mvT rfl) <| Y.v (Ev.extract rfl rfl) <| Y.v (Ev.extract rfl rfl) <| Y.v (Ev.extract rfl rfl) <| Y.v (Ev.asI rfl) <| Y.v (Ev.asI rfl) <| Y.v (Ev.asI rfl) <| Y.z <| Y.qr <| Y.v (Y.o H 1 rfl rfl) <| Y.v (Y.o H 0 rfl rfl) <| OPS.call (d := some 34) rfl rfl rfl (EvC.func (fun_run rfl)) (r45Value n hd A B C P F l ts ns rs left ca cb cc cp cf w (hN.sh H) (hS.sh H) (hF.sh H) hl hnl) ?_
 rintro _ w ⟨rfl, hb⟩
 refine ⟨_, rfl, ?_⟩
 replace H := H.toBelow hb; clear hb
 refine Y.v (Ev.mvT rfl) <| Y.v (Ev.extract rfl rfl) <| Y.v (Ev.extract rfl rfl) <| Y.v (Ev.extract rfl rfl) <| Y.v (Ev.asI rfl) <| Y.v (Ev.asI rfl) <| Y.v (Ev.asI rfl) <| Y.z <| Y.qr <| Y.v (Y.o H 1 rfl rfl) <| Y.v (Y.o H 0 rfl rfl) <| OPS.call (d := some 41) rfl rfl rfl (EvC.func (fun_run rfl)) (rebGap n hd A B C P F l ts ns rs left ca cb cc cp cf w (hN.sh H) (hS.sh H) (hF.sh H) hl hnl) ?_
 rintro _ w ⟨x, rfl, hA, hb⟩
 refine ⟨_, rfl, ?_⟩
 replace H := H.toBelow hb; clear hb
 refine Y.v (Ev.mvT rfl) <| Y.v (Ev.extract rfl rfl) <| Y.v (Ev.extract rfl rfl) <| Y.v (Ev.asI rfl) <| Y.v (Ev.asI rfl) <| Y.z <| Y.qr <| Y.v (Y.o H 1 rfl rfl) <| Y.v (Y.o H 0 rfl rfl) <| OPS.call (d := some 47) rfl rfl rfl (EvC.func (fun_run rfl)) (r45Gap n hd A B C P F l ts ns rs left ca cb cc cp cf w (hN.sh H) (hS.sh H) (hF.sh H) hl hnl (fun h => by obtain ⟨_, _, _, s, b, us, vs, hR, _⟩ := hA.good h; exact ⟨s, b, us, vs, hR⟩)) ?_
 rintro _ w ⟨y, rfl, hA2, hb⟩
 refine ⟨_, rfl, ?_⟩
 replace H := H.toBelow hb; clear hb
 obtain rfl := gap_same hA hA2
 refine Y.v (Ev.mvT rfl) <| Y.v (Ev.extract rfl rfl) <| Y.v (Ev.extract rfl rfl) <| Y.v (Ev.asI rfl) <| Y.v (Ev.asI rfl) <| Y.z <| Y.qr <| Y.v (Y.m rfl) <| Y.v (Y.m rfl) <| Y.v (Ev.eql rfl rfl) <| Y.v (Ev.mvB rfl) <| Y.g rfl rfl (fun hg => Y.m rfl) <| Y.g rfl rfl (fun hg => Y.m rfl) <| Y.g rfl rfl (fun hg => Ev.eql (gvE hg rfl) (gvE hg rfl)) <| Y.v (Ev.pickAnd rfl rfl rfl) <| Y.v (Ev.mvB rfl) <| Y.g rfl rfl (fun hg => Y.m rfl) <| Y.g rfl rfl (fun hg => Y.m rfl) <| Y.g rfl rfl (fun hg => Ev.eql (gvE hg rfl) (gvE hg rfl)) <| Y.v (Ev.pickAnd rfl rfl rfl) <| Y.v (Ev.mvB rfl) <| Y.g rfl rfl (fun hg => Y.m rfl) <| Y.g rfl rfl (fun hg => Y.m rfl) <| Y.g rfl rfl (fun hg => Ev.eql (gvE hg rfl) (gvE hg rfl)) <| Y.v (Ev.pickAnd rfl rfl rfl) <| Y.v (Ev.mvB rfl) <| Y.g rfl rfl (fun hg => Y.m rfl) <| Y.g rfl rfl (fun hg => Y.m rfl) <| Y.g rfl rfl (fun hg => Ev.eql (gvE hg rfl) (gvE hg rfl)) <| Y.v (Ev.pickAnd rfl rfl rfl) <| Y.v (Ev.mvB rfl) <| OPS.gcall0 (f := 10) (law45Awake _) (fun _ _ h => h) rfl rfl rfl rfl rfl (fun hg => (EvC.func (fun_run rfl))) ?_
 intro w hbc; replace H := H.toBelow hbc
 refine Y.v (Ev.pickAnd rfl rfl rfl) <| Y.v (Ev.asB rfl) <| Y.z ?_
 refine WP.ret ⟨_, rfl, ?_⟩
 exact ⟨ret_b rfl (by simp), H.below⟩
set_option maxHeartbeats 2000000 in
theorem law45Bounded (n hd : Int) (A B C : Option Addr) (l : List Edg) (ts : List Truck) (ns : List Need) (ca cb cc : Nat) (P F : Option Addr) (rs : List Rt) (left : List Int) (cp cf : Nat) (w0 : World) (hN : NightAt w0 A B C l ts ns cc) (hP : RtsAt0 w0 P rs) (hF : IntsAt w0 F left) :
  Calls Tryz.prog 7 #[.agg #[I n, .slice A l.length ca, .slice B ts.length cb, .slice C ns.length cc, I hd], .agg #[.slice P rs.length cp, .slice F left.length cf]] w0 fun e w' => e = .returned (.bool true) ∧ Below w0.heap.size w0 w' := by
 have H := SH.refl w0
 refine Calls.ofWP Tryz.func7 rfl Tryz.results7 Tryz.ntmps7 rfl <| Y.qr <| Y.bx (cA rfl) H ?_
 clear H; intro g2 w H
 refine Y.bx (cA rfl) H ?_
 clear H; intro g3 w H
 refine Y.v (Ev.asB rfl) <| Y.z <| Y.q <| Y.qr <| Y.v (Y.o H 1 rfl rfl) <| OPS.call (d := some 8) rfl rfl rfl (EvC.func (fun_run rfl)) (law45Few n hd A B C l.length ts.length ns.length ca cb cc w) ?_
 rintro _ w ⟨rfl, hb⟩
 refine ⟨_, rfl, ?_⟩
 replace H := H.toBelow hb; clear hb
 refine Y.v (Ev.not rfl) <| Y.v (Ev.mvB rfl) <| Y.g rfl rfl (fun hg => Y.o H 0 rfl rfl) <| OPS.gcall0 (f := 14) (law45Small P F rs left.length cp cf w (hP.rows.sh H)) (fun _ _ h => h) rfl rfl rfl rfl rfl (fun hg => EvC.conv (EvC.func (fun_run rfl)) (l1 (gvE hg rfl))) ?_
 intro w hbc; replace H := H.toBelow hbc
 refine Y.g rfl rfl (fun hg => Ev.not (gvE hg rfl)) <| Y.v (Ev.pickOr rfl rfl rfl) <| Y.z ?_
 refine WP.cond rfl (fun hc1 => ?_) (fun hc1 => ?_)
 ·refine Y.qr <| OPS.call (d := some 15) rfl rfl rfl (EvC.func (fun_run rfl)) (law45Awake w) ?_
  rintro _ w ⟨rfl, hb⟩
  refine ⟨_, rfl, ?_⟩
  replace H := H.toBelow hb; clear hb
  refine Y.v (Ev.asB rfl) <| Y.z ?_
  refine WP.ret ⟨_, rfl, ?_⟩
  exact ⟨rfl, H.below⟩
 have hg : few45 l.length ts.length ns.length = true ∧ small45 rs left.length = true := by simpa using hc1
 obtain ⟨hS, _, hl⟩ := hP.small hg.2
 have hnl : ns.length ≤ 1000 := by have := few45_nl hg.1; omega
 replace hl : left.length ≤ 1000 := by omega
 refine Y.k <| Y.qr <| Y.v (Y.o H 1 rfl rfl) <| Y.v (Y.o H 0 rfl rfl) <| OPS.call (d := some 19) rfl rfl rfl (EvC.func (fun_run rfl)) (rebGap n hd A B C P F l ts ns rs left ca cb cc cp cf w (hN.sh H) (hS.sh H) (hF.sh H) hl hnl) ?_
 rintro _ w ⟨x, rfl, hA, hb⟩
 refine ⟨_, rfl, ?_⟩
 replace H := H.toBelow hb; clear hb
 refine Y.v (Ev.mvT rfl) <| Y.v (Ev.extract rfl rfl) <| Y.v (Ev.extract rfl rfl) <| Y.v (Ev.asI rfl) <| Y.v (Ev.asI rfl) <| Y.z <| Y.q <| Y.qr <| Y.v (Y.m rfl) <| Y.v (Ev.neq rfl rfl) <| Y.z ?_
 refine WP.cond rfl (fun hc4 => ?_) (fun hc4 => ?_)
 ·refine Y.qr <| Y.v (Y.m rfl) <| Y.v (Ev.eql rfl rfl) <| Y.v (Ev.mvB rfl) <| OPS.gcall0 (f := 10) (law45Awake _) (fun _ _ h => h) rfl rfl rfl rfl rfl (fun hg => (EvC.func (fun_run rfl))) ?_
  intro w hbc; replace H := H.toBelow hbc
  refine Y.v (Ev.pickAnd rfl rfl rfl) <| Y.v (Ev.asB rfl) <| Y.z ?_
  refine WP.ret ⟨_, rfl, ?_⟩
  have h0 : x = 0 := hA.bad (by simpa using hc4)
  exact ⟨ret_b rfl (by simp [h0]), H.below⟩
 refine Y.k <| Y.qr <| Y.v (Y.m rfl) <| Y.v (Ev.geq rfl rfl) <| Y.v (Ev.mvB rfl) <| OPS.gcall0 (f := 10) (law45Awake _) (fun _ _ h => h) rfl rfl rfl rfl rfl (fun hg => (EvC.func (fun_run rfl))) ?_
 intro w hbc; replace H := H.toBelow hbc
 refine Y.v (Ev.pickAnd rfl rfl rfl) <| Y.v (Ev.asB rfl) <| Y.z ?_
 refine WP.ret ⟨_, rfl, ?_⟩
 have h0 : gapE n l ts ns hd rs left = 0 := by simpa using hc4
 have hx : 0 ≤ x := by
  obtain ⟨hp, rfl, he, s, b, us, vs, hR, rfl⟩ := hA.good h0
  have := sound_le (planOk_of hp) (hR.proved he)
  omega
 exact ⟨ret_b rfl (by simp [hx]), H.below⟩
end Go.Proofs.YtgcokllbophkkaaGreat
