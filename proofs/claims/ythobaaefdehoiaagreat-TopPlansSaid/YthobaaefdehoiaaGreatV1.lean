/-
 Walk: Value of the program.
-/
import Derived.Test.YthobaaefdehoiaaGreatB4
import Derived.Test.YthobaaefdehoiaaGreatK7
import Derived.Test.YthobaaefdehoiaaGreatPtr
set_option linter.all false
namespace Go.Proofs.YthobaaefdehoiaaGreat
open Go Go.W Go.RowKit
noncomputable def valL (n : Int) (l : List Edg) (ts : List Truck) (ns : List Need) (hd : Int) (rs : List Rt) (left : List Int) : Int := if planErr n l ts ns hd rs left = 0 then mvL ns left else 0
noncomputable def valD (n : Int) (l : List Edg) (ts : List Truck) (ns : List Need) (hd : Int) (rs : List Rt) (left : List Int) : Int := if planErr n l ts ns hd rs left = 0 then drvL n l ts ns hd rs else 0
theorem PlanOk.left {n : Int} {l : List Edg} {ts : List Truck} {ns : List Need} {hd : Int} {rs : List Rt} {left : List Int} (h : PlanOk n l ts ns hd rs left) : ∀ i ∈ left, 0 ≤ i ∧ i < (ns.length : Int) := fun i hi => by
 have h1 := h.good
 unfold goodAll at h1
 rw [Bool.and_eq_true, decide_eq_true_eq] at h1
 exact h1.1 i (List.mem_append_right _ hi)
theorem PlanOk.moves {n : Int} {l : List Edg} {ts : List Truck} {ns : List Need} {hd : Int} {rs : List Rt} {left : List Int} (h : PlanOk n l ts ns hd rs left) : ∀ x ∈ ns, -32 ≤ x.move ∧ x.move ≤ 32 := fun x hx => by
 obtain ⟨m, _, hN⟩ := nightOk_of h.night
 exact (hN.nd x hx).2.2
set_option maxHeartbeats 2000000 in
theorem rebValue (n hd : Int) (A B C P F : Option Addr) (l : List Edg) (ts : List Truck) (ns : List Need) (rs : List Rt) (left : List Int) (ca cb cc cp cf : Nat) (w0 : World) (hN : NightAt w0 A B C l ts ns cc)
  (hP : RtsAt w0 P rs) (hF : IntsAt w0 F left) (hfl : left.length ≤ 1000) (hnl : ns.length ≤ 1000) :
  Calls Tryz.prog 32 #[.agg #[I n, .slice A l.length ca, .slice B ts.length cb, .slice C ns.length cc, I hd], .agg #[.slice P rs.length cp, .slice F left.length cf]] w0 fun e w' =>
   e = .returned (.tuple #[I (valL n l ts ns hd rs left), I (valD n l ts ns hd rs left), I (planErr n l ts ns hd rs left)]) ∧ Below w0.heap.size w0 w' := by
 have H := SH.refl w0
 have hfew := hP.few
 refine Calls.ofWP Tryz.func32 rfl Tryz.results32 Tryz.ntmps32 rfl <| Y.qr <| Y.bx (cA rfl) H ?_
 clear H; intro g2 w H
 refine Y.bx (cA rfl) H ?_
 clear H; intro g3 w H
 refine Y.b rfl <| Y.b rfl <| Y.b rfl <| Y.z <| Y.q <| Y.qr <| Y.v (Y.o H 1 rfl rfl) <| Y.v (Y.o H 0 rfl rfl) <| OPS.call (d := some 18) rfl rfl rfl (EvC.func (fun_run rfl)) (truckFeasible n hd A B C P F l ts ns rs left ca cb cc cp cf w (hN.sh H).l (hN.sh H).t (hN.sh H).n hN.c (hP.sh H) (hF.sh H) hfl hnl) ?_
 rintro _ w ⟨rfl, hb⟩
 refine ⟨_, rfl, ?_⟩
 replace H := H.toBelow hb; clear hb
 refine Y.b rfl <| Y.z <| Y.qr <| Y.a rfl <| Y.v (Ev.neq rfl rfl) <| Y.z ?_
 refine WP.cond rfl (fun hc2 => ?_) (fun hc2 => ?_)
 ·refine Y.qr <| Y.a rfl <| Y.b rfl <| Y.b rfl <| Y.b rfl <| Y.z ?_
  refine WP.ret ⟨_, rfl, ?_⟩
  have h : planErr n l ts ns hd rs left ≠ 0 := by simpa using hc2
  exact ⟨by rw [valL, valD, if_neg h, if_neg h]; rfl, H.below⟩
 have h0 : planErr n l ts ns hd rs left = 0 := by simpa using hc2
 have hK := planOk_of h0
 have hm := hK.moves
 rw [valL, valD, if_pos h0, if_pos h0, h0]
 refine Y.k <| Y.qr <| Y.b rfl <| Y.b rfl <| Y.z <| Y.q <| Y.qr <| Y.fa rfl rfl <| Y.j H 0 rfl rfl rfl <| Y.v (Y.n rfl) <| Y.a rfl <| Y.z <| WP.block <| WP.loop [8, 11, 25, 26, 27, 28, 29, 30, 31, 32, 33, 34, 35, 36, 37, 38, 39, 40, 41, 42, 43, 44, 45] (fun k e w' => ∃ j : Nat, j + k = left.length ∧ e 25 = I j ∧ e 8 = I (mvL ns (left.take j)) ∧ SH w0 [] w' [⟨g3, 32, [.slice P rs.length cp, .slice F left.length cf]⟩, ⟨g2, 28, [I n, .slice A l.length ca, .slice B ts.length cb, .slice C ns.length cc, I hd]⟩]) (left.length) (⟨0, by omega, rfl, rfl, H⟩) ?_
 clear H
 rintro k u w ⟨j, hk, h25, h8, H⟩
 refine WP.know (t := 25) h25 (WP.know (t := 8) h8 ?_)
 refine Y.qr <| Y.v (Ev.lss rfl rfl) <| Y.z <| Y.q ?_
 refine WP.cond rfl (fun hc6 => ?_) (fun hc6 => ?_)
 ·have hlt : j < left.length := by simpa using hc6
  obtain ⟨br, orr, rfl, hx⟩ := hF j hlt
  have hir := hK.left left[j] (List.getElem_mem hlt)
  obtain ⟨i, hi⟩ := Int.eq_ofNat_of_zero_le hir.1
  rw [hi] at hx
  have hil : i < ns.length := by omega
  obtain ⟨bn, on, rfl, hy⟩ := hN.n i hil
  have hmv := hm ns[i] (List.getElem_mem hil)
  have hbd := mvL_bd hm (left.take j)
  have htl : (left.take j).length = j := by rw [List.length_take]; omega
  have hsn := mvL_snoc ns (left.take j) left[j]
  rw [← List.take_succ_eq_append_getElem hlt, hi, needAt_eq hil] at hsn
  generalize ns[i] = x at *
  refine Y.k <| Y.q <| WP.block <| Y.qr <| Y.v (Y.x rfl rfl rfl rfl) <| Y.v (Y.c (H.ld0 (by assumption)) rfl) ?_
  refine Y.b rfl <| Y.z <| WP.rstill mixed (by kernel_rfl) H ?_
  clear H; intro w hbw8 H
  obtain ⟨q1, q2, _⟩ := cellsAt_sh H hy
  refine Y.a rfl <| Y.fa rfl rfl <| Y.j H 1 rfl rfl rfl <| Y.a rfl <| Y.v (Y.X rfl rfl rfl rfl rfl) <| Y.fa rfl rfl <| Y.v (Y.c (by assumption) rfl) ?_
  refine Y.fa rfl rfl <| Y.j H 1 rfl rfl rfl <| Y.a rfl <| Y.v (Y.X rfl rfl rfl rfl rfl) <| Y.fa rfl rfl <| Y.v (Y.c (by assumption) rfl) ?_
  refine Y.v (Ev.neg rfl (by unfold fits; omega)) <| Y.v (Ev.max rfl rfl) <| Y.v (Y.p rfl rfl) <| Y.b rfl <| OPS.nil_s <| Y.r <| Y.v (Y.p rfl rfl) <| Y.a rfl <| Y.z ?_
  exact ⟨Y.ag, k - 1, by omega, j + 1, by omega, rfl, (by rw [hsn]; rfl), H⟩
 have hj : j = left.length := by simp at hc6; omega
 rw [hj, List.take_length]
 refine WP.exit <| XB.hit <| Y.q <| Y.qr <| Y.fa rfl rfl <| Y.j H 0 rfl rfl rfl <| Y.v (Y.n rfl) <| Y.a rfl <| Y.z <| WP.block <| WP.loop [4, 5, 6, 9, 13, 14, 15, 49, 50, 51, 52, 53, 54, 55, 56, 57, 58, 59, 60, 61, 62, 63, 64, 65] (fun k e w' => ∃ j : Nat, j + k = rs.length ∧ e 49 = I j ∧ e 9 = I (drvL n l ts ns hd (rs.take j)) ∧ (0 ≤ drvL n l ts ns hd (rs.take j) ∧ drvL n l ts ns hd (rs.take j) ≤ 2000000 * j) ∧ SH w0 [] w' [⟨g3, 32, [.slice P rs.length cp, .slice F left.length cf]⟩, ⟨g2, 28, [I n, .slice A l.length ca, .slice B ts.length cb, .slice C ns.length cc, I hd]⟩]) (rs.length) (⟨0, by omega, rfl, rfl, by simp [drvL], H⟩) ?_
 clear H
 rintro k2 u2 w ⟨j2, hk2, h49, h9, hbd2, H⟩
 refine WP.know (t := 49) h49 (WP.know (t := 9) h9 ?_)
 refine Y.qr <| Y.v (Ev.lss rfl rfl) <| Y.z <| Y.q ?_
 refine WP.cond rfl (fun hc11 => ?_) (fun hc11 => ?_)
 ·have hlt2 : j2 < rs.length := by simpa using hc11
  obtain ⟨b, o, rfl, hc⟩ := hP.rows j2 hlt2
  have hr := hP.ints rs[j2] (List.getElem_mem hlt2)
  have hrl := hP.len rs[j2] (List.getElem_mem hlt2)
  have hrc := hP.cap rs[j2] (List.getElem_mem hlt2)
  have hE := hK.walks j2 hlt2
  have hob := outD_bd hE
  refine Y.k <| Y.q <| WP.block <| Y.qr <| Y.v (Y.X rfl rfl rfl rfl rfl) <| Y.v (Ev.loadN (rtCells rs[j2]) (agg_run rfl) (size_run rfl) rfl (cellsAt_sh H hc)) <| Y.al H rfl rfl ?_
  clear H; intro g13 w H
  refine Y.ss 0 H rfl (cA rfl) rfl ?_
  clear H; intro w H
  refine Y.z <| Y.qr <| Y.v (Y.o H 2 rfl rfl) <| Y.v (Y.o H 0 rfl rfl) <| OPS.call (d := some 56) rfl rfl rfl (EvC.func (fun_run rfl)) (truckDriving n hd rs[j2].trk A B C rs[j2].nd.A l ts ns rs[j2].nd.l ca cb cc rs[j2].nd.cap _ (hN.sh H).l (hN.sh H).t (hN.sh H).n hN.c (hr.sh H) (by unfold maxLen; omega) hrc) ?_
  rintro _ w ⟨rfl, hb⟩
  refine ⟨_, rfl, ?_⟩
  replace H := H.toBelow hb; clear hb
  refine Y.v (Ev.mvT rfl) <| Y.v (Ev.extract rfl rfl) <| Y.v (Ev.extract rfl rfl) <| Y.b rfl <| Y.b rfl <| Y.z <| Y.q <| Y.qr <| Y.a rfl <| Y.v (Ev.neq rfl rfl) <| Y.z ?_
  refine WP.cond rfl (fun hc14 => ?_) (fun hc14 => ?_)
  ·refine Y.qr <| Y.a rfl <| Y.b rfl <| Y.b rfl <| Y.b rfl <| Y.z ?_
   refine WP.ret ⟨_, rfl, ?_⟩
   exact absurd hc14 (by simp [hE])
  refine Y.k <| Y.r <| Y.a rfl <| Y.a rfl <| Y.v (Y.p rfl rfl) <| Y.b rfl <| Y.z <| Y.r <| Y.v (Y.p rfl rfl) <| Y.a rfl <| Y.z ?_
  exact ⟨Y.ag, k2 - 1, by omega, j2 + 1, by omega, rfl, by rw [drvL_succ hlt2]; rfl, by rw [drvL_succ hlt2]; omega, H.drop (List.sublist_cons_self _ _)⟩
 have hj2 : j2 = rs.length := by simp at hc11; omega
 rw [hj2, List.take_length]
 refine WP.exit <| XB.hit <| Y.qr <| Y.a rfl <| Y.a rfl <| Y.b rfl <| Y.b rfl <| Y.b rfl <| Y.z ?_
 refine WP.ret ⟨_, rfl, ?_⟩
 exact ⟨rfl, H.below⟩
end Go.Proofs.YthobaaefdehoiaaGreat

/-
 Walks: Gap and Better of the program.
-/
set_option linter.all false
namespace Go.Proofs.YthobaaefdehoiaaGreat
open Go Go.W Go.RowKit
noncomputable def gapE (n : Int) (l : List Edg) (ts : List Truck) (ns : List Need) (hd : Int) (rs : List Rt) (left : List Int) : Int :=
 if planErr n l ts ns hd rs left ≠ 0 then planErr n l ts ns hd rs left else if left ≠ [] then 26 else findErr n l ts ns hd
structure GapAns (n : Int) (l : List Edg) (ts : List Truck) (ns : List Need) (hd : Int) (rs : List Rt) (left : List Int) (x : Int) : Prop where
 bad : gapE n l ts ns hd rs left ≠ 0 → x = 0
 good : gapE n l ts ns hd rs left = 0 → planErr n l ts ns hd rs left = 0 ∧ left = [] ∧ findErr n l ts ns hd = 0 ∧ ∃ (s b : Int) (us vs : List Int), FindRet n l ts ns hd s b us vs ∧ x = drvL n l ts ns hd rs - s
theorem drvL_bd {n hd : Int} {l : List Edg} {ts : List Truck} {ns : List Need} : ∀ (rs : List Rt), (∀ i (h : i < rs.length), walkE n l ts ns hd rs[i].trk rs[i].nd.l = 0) → 0 ≤ drvL n l ts ns hd rs ∧ drvL n l ts ns hd rs ≤ 2000000 * rs.length
 | [], _ => by simp [drvL]
 | r :: rs, h => by
  have h1 := drvL_bd rs fun i hi => h (i + 1) (by simpa using hi)
  have h2 := outD_bd (h 0 (by simp))
  simp only [drvL, List.map_cons, List.sum_cons, List.length_cons, List.getElem_cons_zero] at h1 h2 ⊢
  omega
theorem FindRet.secs {n hd s b : Int} {l : List Edg} {ts : List Truck} {ns : List Need} {us vs : List Int} (h : FindRet n l ts ns hd s b us vs) : 0 ≤ s ∧ s ≤ 1125899906842624 := by
 by_cases he : findErr n l ts ns hd = 0
 ·obtain ⟨m, T, rfl, hK, hS, rfl, _, h3⟩ := h.good he
  have h1 := hS.tn
  have h2 := capL_bd hK
  unfold divI
  split
  ·omega
  ·have h4 := Int.ediv_le_self (a := T + capL ts - 1) (capL ts) (by omega)
   have h5 := Int.ediv_nonneg (a := T + capL ts - 1) (b := capL ts) (by omega) (by omega)
   omega
 ·obtain ⟨rfl, _⟩ := h.bad he
  omega
set_option maxHeartbeats 2000000 in
theorem rebGap (n hd : Int) (A B C P F : Option Addr) (l : List Edg) (ts : List Truck) (ns : List Need) (rs : List Rt) (left : List Int) (ca cb cc cp cf : Nat) (w0 : World) (hN : NightAt w0 A B C l ts ns cc)
  (hP : RtsAt w0 P rs) (hF : IntsAt w0 F left) (hfl : left.length ≤ 1000) (hnl : ns.length ≤ 1000) :
  Calls Tryz.prog 14 #[.agg #[I n, .slice A l.length ca, .slice B ts.length cb, .slice C ns.length cc, I hd], .agg #[.slice P rs.length cp, .slice F left.length cf]] w0 fun e w' =>
   ∃ x, e = .returned (.tuple #[I x, I (gapE n l ts ns hd rs left)]) ∧ GapAns n l ts ns hd rs left x ∧ Below w0.heap.size w0 w' := by
 have H := SH.refl w0
 have hfew := hP.few
 refine Calls.ofWP Tryz.func14 rfl Tryz.results14 Tryz.ntmps14 rfl <| Y.qr <| Y.bx (cA rfl) H ?_
 clear H; intro g2 w H
 refine Y.bx (cA rfl) H ?_
 clear H; intro g3 w H
 refine Y.b rfl <| Y.b rfl <| Y.z <| Y.qr <| Y.v (Y.o H 1 rfl rfl) <| Y.v (Y.o H 0 rfl rfl) <| OPS.call (d := some 13) rfl rfl rfl (EvC.func (fun_run rfl)) (rebValue n hd A B C P F l ts ns rs left ca cb cc cp cf w (hN.sh H) (hP.sh H) (hF.sh H) hfl hnl) ?_
 rintro _ w ⟨rfl, hb⟩
 refine ⟨_, rfl, ?_⟩
 replace H := H.toBelow hb; clear hb
 refine Y.v (Ev.mvT rfl) <| Y.v (Ev.extract rfl rfl) <| Y.v (Ev.extract rfl rfl) <| Y.v (Ev.extract rfl rfl) <| Y.b rfl <| Y.b rfl <| Y.b rfl <| Y.z <| Y.q <| Y.qr <| Y.a rfl <| Y.v (Ev.neq rfl rfl) <| Y.z ?_
 refine WP.cond rfl (fun hc2 => ?_) (fun hc2 => ?_)
 ·refine Y.qr <| Y.a rfl <| Y.b rfl <| Y.b rfl <| Y.z ?_
  refine WP.ret ⟨_, rfl, ?_⟩
  have h : planErr n l ts ns hd rs left ≠ 0 := by simpa using hc2
  have hg : gapE n l ts ns hd rs left = planErr n l ts ns hd rs left := if_pos h
  exact ⟨0, by rw [hg]; rfl, ⟨fun _ => rfl, fun h2 => absurd (hg ▸ h2) h⟩, H.below⟩
 have h0 : planErr n l ts ns hd rs left = 0 := by simpa using hc2
 have hK := planOk_of h0
 have hd0 := drvL_bd rs hK.walks
 refine Y.k <| Y.q <| Y.qr <| Y.fa rfl rfl <| Y.j H 0 rfl rfl rfl <| Y.v (Y.n rfl) <| Y.v (Ev.gtr rfl rfl) <| Y.z ?_
 refine WP.cond rfl (fun hc4 => ?_) (fun hc4 => ?_)
 ·refine Y.qr <| Y.b rfl <| Y.b rfl <| Y.z ?_
  refine WP.ret ⟨_, rfl, ?_⟩
  have h : left ≠ [] := by
   rintro rfl
   simp at hc4
  have hg : gapE n l ts ns hd rs left = 26 := by rw [gapE, if_neg (by simp [h0]), if_pos h]
  exact ⟨0, by rw [hg]; rfl, ⟨fun _ => rfl, fun h2 => absurd (hg ▸ h2) (by decide)⟩, H.below⟩
 have h1 : left = [] := by
  cases left with
  | nil => rfl
  | cons a t => simp at hc4
 subst h1
 have hg : gapE n l ts ns hd rs [] = findErr n l ts ns hd := by rw [gapE, if_neg (by simp [h0]), if_neg (by simp)]
 refine Y.k <| Y.qr <| Y.v (Y.o H 1 rfl rfl) <| OPS.call (d := some 26) rfl rfl rfl (EvC.func (fun_run rfl)) (boundFind n hd A B C l ts ns ca cb cc w (hN.sh H)) ?_
 rintro _ w ⟨s, b, us, vs, AU, AV, cu, cv, L, rfl, hR, hrd, Hc⟩
 refine ⟨_, rfl, ?_⟩
 replace H := SH.call (Lv := []) (by rw [List.append_nil]; exact H) Hc
 clear Hc
 refine Y.v (Ev.mvT rfl) <| Y.v (Ev.extract rfl rfl) <| Y.v (Ev.extract rfl rfl) <| Y.al H rfl rfl ?_
 clear H; intro g9 w H
 refine Y.ss 0 H rfl (cA rfl) rfl ?_
 clear H; intro w H
 refine Y.b rfl <| Y.z <| Y.q <| Y.qr <| Y.a rfl <| Y.v (Ev.neq rfl rfl) <| Y.z ?_
 refine WP.cond rfl (fun hc7 => ?_) (fun hc7 => ?_)
 ·refine Y.qr <| Y.a rfl <| Y.b rfl <| Y.b rfl <| Y.z ?_
  refine WP.ret ⟨_, rfl, ?_⟩
  have h2 : findErr n l ts ns hd ≠ 0 := by simpa using hc7
  exact ⟨0, by rw [hg]; rfl, ⟨fun _ => rfl, fun h3 => absurd (hg ▸ h3) h2⟩, H.below⟩
 have h2 : findErr n l ts ns hd = 0 := by simpa using hc7
 have hsb := hR.secs
 have hvd : valD n l ts ns hd rs [] = drvL n l ts ns hd rs := if_pos h0
 unfold bndL at H
 refine Y.k <| Y.qr <| Y.a rfl <| Y.fa rfl rfl <| Y.j H 0 rfl rfl rfl <| Y.v (Y.s rfl rfl) <| Y.b rfl <| Y.b rfl <| Y.z ?_
 refine WP.ret ⟨_, rfl, ?_⟩
 exact ⟨valD n l ts ns hd rs [] - s, by rw [hg, h2]; rfl, ⟨fun h3 => absurd (hg.trans h2) h3, fun _ => ⟨h0, rfl, h2, s, b, us, vs, hR, by rw [hvd]⟩⟩, H.below⟩
def betB (eA eB lA lB dA dB : Int) : Bool := decide (eA = 0) && (decide (eB = 0) && (decide (lA < lB) || (decide (lA = lB) && decide (dA < dB))))
set_option maxHeartbeats 2000000 in
theorem rebBetter (n hd : Int) (A B C P F P2 F2 : Option Addr) (l : List Edg) (ts : List Truck) (ns : List Need) (rs rs2 : List Rt) (left left2 : List Int) (ca cb cc cp cf cp2 cf2 : Nat) (w0 : World) (hN : NightAt w0 A B C l ts ns cc)
  (hP : RtsAt w0 P rs) (hF : IntsAt w0 F left) (hfl : left.length ≤ 1000) (hP2 : RtsAt w0 P2 rs2) (hF2 : IntsAt w0 F2 left2) (hfl2 : left2.length ≤ 1000) (hnl : ns.length ≤ 1000) :
  Calls Tryz.prog 12 #[.agg #[I n, .slice A l.length ca, .slice B ts.length cb, .slice C ns.length cc, I hd], .agg #[.slice P rs.length cp, .slice F left.length cf], .agg #[.slice P2 rs2.length cp2, .slice F2 left2.length cf2]] w0 fun e w' =>
   e = .returned (.bool (betB (planErr n l ts ns hd rs left) (planErr n l ts ns hd rs2 left2) (valL n l ts ns hd rs left) (valL n l ts ns hd rs2 left2) (valD n l ts ns hd rs left) (valD n l ts ns hd rs2 left2))) ∧ Below w0.heap.size w0 w' := by
 have H := SH.refl w0
 refine Calls.ofWP Tryz.func12 rfl Tryz.results12 Tryz.ntmps12 rfl <| Y.qr <| Y.bx (cA rfl) H ?_
 clear H; intro g3 w H
 refine Y.bx (cA rfl) H ?_
 clear H; intro g4 w H
 refine Y.bx (cA rfl) H ?_
 clear H; intro g5 w H
 refine Y.v (Ev.asB rfl) <| Y.z <| Y.qr <| Y.v (Y.o H 2 rfl rfl) <| Y.v (Y.o H 1 rfl rfl) <| OPS.call (d := some 16) rfl rfl rfl (EvC.func (fun_run rfl)) (rebValue n hd A B C P F l ts ns rs left ca cb cc cp cf w (hN.sh H) (hP.sh H) (hF.sh H) hfl hnl) ?_
 rintro _ w ⟨rfl, hb⟩
 refine ⟨_, rfl, ?_⟩
 replace H := H.toBelow hb; clear hb
 refine Y.v (Ev.mvT rfl) <| Y.v (Ev.extract rfl rfl) <| Y.v (Ev.extract rfl rfl) <| Y.v (Ev.extract rfl rfl) <| Y.b rfl <| Y.b rfl <| Y.b rfl <| Y.z <| Y.qr <| Y.v (Y.o H 2 rfl rfl) <| Y.v (Y.o H 0 rfl rfl) <| OPS.call (d := some 23) rfl rfl rfl (EvC.func (fun_run rfl)) (rebValue n hd A B C P2 F2 l ts ns rs2 left2 ca cb cc cp2 cf2 w (hN.sh H) (hP2.sh H) (hF2.sh H) hfl2 hnl) ?_
 rintro _ w ⟨rfl, hb⟩
 refine ⟨_, rfl, ?_⟩
 replace H := H.toBelow hb; clear hb
 refine Y.v (Ev.mvT rfl) <| Y.v (Ev.extract rfl rfl) <| Y.v (Ev.extract rfl rfl) <| Y.v (Ev.extract rfl rfl) <| Y.b rfl <| Y.b rfl <| Y.b rfl <| Y.z <| Y.q <| Y.qr <| Y.a rfl <| Y.v (Ev.neq rfl rfl) <| Y.v (Ev.mvB rfl) <| Y.g rfl rfl (fun hg => Y.m rfl) <| Y.g rfl rfl (fun hg => Ev.neq (gvE hg rfl) rfl) <| Y.v (Ev.pickOr rfl rfl rfl) <| Y.z ?_
 refine WP.cond rfl (fun hc3 => ?_) (fun hc3 => ?_)
 ·refine Y.qr <| Y.v (Ev.asB rfl) <| Y.z ?_
  refine WP.ret ⟨_, rfl, ?_⟩
  refine ⟨ret_b rfl ?_, H.below⟩
  unfold betB
  simp at hc3
  grind
 refine Y.k <| Y.qr <| Y.a rfl <| Y.a rfl <| Y.v (Ev.lss rfl rfl) <| Y.v (Ev.mvB rfl) <| Y.g rfl rfl (fun hg => Y.m rfl) <| Y.g rfl rfl (fun hg => Y.m rfl) <| Y.g rfl rfl (fun hg => Ev.eql (gvE hg rfl) (gvE hg rfl)) <| Y.g rfl rfl (fun hg => Ev.mvB (gvE hg rfl)) <| OPS.gvalN rfl rfl (GB.g rfl) rfl rfl (fun hg => Ev.mvI rfl) <| OPS.gvalN rfl rfl (GB.g rfl) rfl rfl (fun hg => Ev.mvI rfl) <| OPS.gvalN rfl rfl (GB.g rfl) rfl rfl (fun hg => Ev.lss (gvE hg rfl) (gvE hg rfl)) <| Y.g rfl rfl (fun hg => Ev.pickAnd2 (beqT hg) (gvE hg rfl) rfl rfl) <| Y.v (Ev.pickOr rfl rfl rfl) <| Y.v (Ev.asB rfl) <| Y.z ?_
 refine WP.ret ⟨_, rfl, ?_⟩
 refine ⟨ret_b rfl ?_, H.below⟩
 unfold betB
 simp at hc3
 grind
end Go.Proofs.YthobaaefdehoiaaGreat

/-
 Plain: what Make returns is feasible, cannot be extended, and is the best with one truck and few needs.
-/
set_option linter.all false
namespace Go.Proofs.YthobaaefdehoiaaGreat
open Go Go.W Go.RowKit
section
variable {m : Nat} {l : List Edg} {ts : List Truck} {ns : List Need} {hd : Int}
theorem RouteR.walk {q : Nat} {left x : List Int} (h : RouteR m l ts ns hd q left x) (hx : x ≠ []) : walkE m l ts ns hd q x = 0 := by
 rcases h with ⟨_, h⟩ | ⟨_, rfl⟩
 ·exact h.1.2
 ·rcases (greedy_ok (m := m) (l := l) (ts := ts) (ns := ns) (hd := hd) (q := q) (left := left) left.length GrOk.nil).walk with h | h
  ·exact absurd h hx
  ·exact h
theorem RouteR.full {q : Nat} {left x : List Int} (h : RouteR m l ts ns hd q left x) (hnd : left.Nodup) (hpos : ∀ i ∈ left, 0 < absI (needAt ns i).move) : ∀ i ∈ left, i ∉ x → walkE m l ts ns hd q (x ++ [i]) ≠ 0 := fun i hi hix => by
 rcases h with ⟨_, hb⟩ | ⟨_, rfl⟩
 ·intro hw
  have h1 := hb.2 (x ++ [i]) ⟨⟨by
   rw [List.nodup_append]
   exact ⟨hb.1.1.1, by simp, fun a ha b hb' he => by simp at hb'; subst hb' he; exact hix ha⟩, fun y hy => by
   rcases List.mem_append.1 hy with hy | hy
   ·exact hb.1.1.2 y hy
   ·simp at hy; subst hy; exact hi⟩, hw⟩
  refine h1 (.inl ?_)
  rw [mvL_snoc]
  have := hpos i hi
  omega
 ·rcases greedy_end (m := m) (l := l) (ts := ts) (ns := ns) (hd := hd) (q := q) hnd left.length GrOk.nil (by simp) i hi with h | h
  ·exact absurd h hix
  ·exact h
def allR (R : List (Int × List Int)) : List Int := R.flatMap (·.2)
def servedR (R : List (Int × List Int)) (t : Int) : List Int := match R.find? (fun r => r.1 == t) with
 | none => []
 | some r => r.2
theorem perm_filter (left x : List Int) (hl : left.Nodup) (hx : x.Nodup) (hs : ∀ i ∈ x, i ∈ left) : (x ++ left.filter fun i => !decide (i ∈ x)).Perm left := by
 refine (List.perm_ext_iff_of_nodup ?_ hl).2 fun i => ?_
 ·rw [List.nodup_append]
  exact ⟨hx, hl.filter _, fun a ha b hb he => by subst he; rw [List.mem_filter] at hb; simp [ha] at hb⟩
 ·rw [List.mem_append, List.mem_filter]
  constructor
  ·rintro (h | h)
   ·exact hs i h
   ·exact h.1
  ·intro h
   by_cases hi : i ∈ x
   ·exact .inl hi
   ·exact .inr ⟨h, by simpa using hi⟩
structure PlanR (m : Nat) (l : List Edg) (ts : List Truck) (ns : List Need) (hd : Int) (j : Nat) (R : List (Int × List Int)) (left : List Int) : Prop where
 perm : (allR R ++ left).Perm (upto ns.length)
 trk : (R.map (·.1)).Nodup
 low : ∀ r ∈ R, r.1 < (j : Int)
 walk : ∀ r ∈ R, walkE m l ts ns hd r.1 r.2 = 0
 full : ∀ t : Nat, t < j → ∀ i ∈ left, walkE m l ts ns hd t (servedR R t ++ [i]) ≠ 0
theorem MkR.plan {j : Nat} {R : List (Int × List Int)} {left : List Int} (h : MkR m l ts ns hd j R left) (hpos : ∀ i : Int, 0 ≤ i → i < ns.length → 0 < absI (needAt ns i).move) : PlanR m l ts ns hd j R left := by
 induction h with
 | start => exact ⟨by simp [allR], by simp, by simp, by simp, fun t ht => absurd ht (by omega)⟩
 | @skip j R left h hr ih =>
  obtain ⟨hnd, hin, _⟩ := h.facts
  refine ⟨ih.perm, ih.trk, fun r hr => by have := ih.low r hr; omega, ih.walk, fun t ht i hi => ?_⟩
  rcases Nat.lt_succ_iff_lt_or_eq.1 ht with h1 | rfl
  ·exact ih.full t h1 i hi
  ·have hs : servedR R t = [] := by
    unfold servedR
    rw [List.find?_eq_none.2 fun r hr => by have := ih.low r hr; simp; omega]
   rw [hs]
   exact hr.full hnd (fun i hi => hpos i (hin i hi).1 (hin i hi).2) i hi (by simp)
 | @add j R left x h hr hx ih =>
  obtain ⟨hnd, hin, _⟩ := h.facts
  obtain ⟨hxn, hxs⟩ := hr.sub
  refine ⟨?_, ?_, ?_, ?_, ?_⟩
  ·have h1 : allR (R ++ [((j : Int), x)]) = allR R ++ x := by simp [allR]
   rw [h1, List.append_assoc]
   exact ((perm_filter left x hnd hxn hxs).append_left (allR R)).trans ih.perm
  ·rw [List.map_append, List.nodup_append]
   refine ⟨ih.trk, by simp, fun a ha b hb he => ?_⟩
   simp at hb
   obtain ⟨r, hr', rfl⟩ := List.mem_map.1 ha
   have := ih.low r hr'
   omega
  ·intro r hr'
   rcases List.mem_append.1 hr' with hr' | hr'
   ·have := ih.low r hr'; omega
   ·simp at hr'; subst hr'; show (j : Int) < _; omega
  ·intro r hr'
   rcases List.mem_append.1 hr' with hr' | hr'
   ·exact ih.walk r hr'
   ·simp at hr'; subst hr'; exact hr.walk hx
  ·intro t ht i hi
   rw [List.mem_filter] at hi
   have hix : i ∉ x := by simpa using hi.2
   rcases Nat.lt_succ_iff_lt_or_eq.1 ht with h1 | rfl
   ·have hs : servedR (R ++ [((j : Int), x)]) t = servedR R t := by
     unfold servedR
     rw [List.find?_append]
     cases hf : R.find? (fun r => r.1 == (t : Int)) with
     | some r => rfl
     | none =>
      have : ¬ (j : Int) = t := by omega
      simp [this]
    rw [hs]
    exact ih.full t h1 i hi.1
   ·have hs : servedR (R ++ [((t : Int), x)]) t = x := by
     unfold servedR
     rw [List.find?_append, List.find?_eq_none.2 fun r hr => by have := ih.low r hr; simp; omega]
     simp
    rw [hs]
    exact hr.full hnd (fun i hi => hpos i (hin i hi).1 (hin i hi).2) i hi.1 hix
theorem pos_of (hK : NightOk m l ts ns hd) : ∀ i : Int, 0 ≤ i → i < ns.length → 0 < absI (needAt ns i).move := fun i h1 h2 => by
 obtain ⟨p, rfl⟩ := Int.eq_ofNat_of_zero_le h1
 have hp : p < ns.length := by omega
 have := (hK.nd ns[p] (List.getElem_mem hp)).2.1
 rw [needAt_eq hp]
 unfold absI; split <;> omega
theorem upto_sorted (k : Nat) : (upto k).Pairwise (· < ·) := by
 unfold upto
 rw [List.pairwise_map]
 exact List.Pairwise.imp (fun h => by omega) List.pairwise_lt_range
theorem sortedB_of {l : List Int} (h : l.Pairwise (· < ·)) : sortedB l = true := by
 unfold sortedB
 rw [List.all_eq_true]
 intro i hi
 rw [List.mem_range] at hi
 rw [List.pairwise_iff_getElem] at h
 have := h i (i + 1) (by omega) (by omega) (by omega)
 simp [show i < l.length by omega, show i + 1 < l.length by omega]
 omega
theorem allR_rtL (rs : List Rt) : allR (rtL rs) = allN rs := by simp [allR, rtL, allN, List.flatMap_map]
theorem make_plan (hE : nightErr m l ts ns hd = 0) {rs : List Rt} {left : List Int} {j : Nat} (h : MkR m l ts ns hd j (rtL rs) left) : planErr m l ts ns hd rs left = 0 := by
 obtain ⟨m', hm, hK⟩ := nightOk_of hE
 obtain rfl : m = m' := by omega
 have hP := h.plan (pos_of hK)
 have hperm := hP.perm
 rw [allR_rtL] at hperm
 have hr : routesE m l ts ns hd rs = 0 := routesE_all fun i hi => by
  have := hP.walk (rs[i].trk, rs[i].nd.l) (List.mem_map.2 ⟨rs[i], List.getElem_mem hi, rfl⟩)
  exact this
 have ht : (rs.map (·.trk)).Nodup := by
  have := hP.trk
  unfold rtL at this
  rw [List.map_map] at this
  exact this
 have hnd : (allN rs ++ left).Nodup := hperm.nodup_iff.2 (upto_nodup _)
 have hgd : goodAll ns.length (allN rs ++ left) = true := by
  unfold goodAll
  rw [decide_eq_true, decide_eq_true]
  ·rfl
  ·rw [hperm.length_eq, upto_len]
  ·exact fun i hi => upto_mem.1 (hperm.mem_iff.1 hi)
 rw [planErr, if_neg (by rw [hE]; simp), if_neg (by rw [hr]; simp), if_neg (by simp [twiceB, ht, hnd]), if_pos hgd, if_pos (sortedB_of ((upto_sorted _).sublist h.sub))]
theorem roadT_self {v : Nat} (hok : RoadOk m l) (hv : v < m) : roadT m l v v = 0 := by
 obtain ⟨K, D, hR⟩ := rd_exists hok hv
 rw [roadT_eq hok hR hv, if_pos hR.src.1]
 exact hR.src.2
theorem outD_nil (hE : nightErr m l ts ns hd = 0) {q : Nat} (hq : q < ts.length) : outD m l ts ns hd q [] = 0 := by
 obtain ⟨m', hm, hK⟩ := nightOk_of hE
 obtain rfl : m = m' := by omega
 have htr := hK.tr ts[q] (List.getElem_mem hq)
 unfold outD
 split
 ·unfold walkT endT
  have hgt : ts.getD (q : Int).toNat default = ts[q] := by simp [hq]
  rw [hgt]
  have hs : roadT m l (ts[q]).depot.toNat (ts[q]).depot.toNat = 0 := roadT_self hK.road (by omega)
  simp [goT, startT, homeT, driveS, roadD, hs]
 ·rfl
theorem make_best (hE : nightErr m l ts ns hd = 0) {rs rs2 : List Rt} {left left2 : List Int} (h : MkR m l ts ns hd ts.length (rtL rs) left) (h1 : ts.length = 1) (h6 : ns.length ≤ 6) :
  betB (planErr m l ts ns hd rs2 left2) (planErr m l ts ns hd rs left) (valL m l ts ns hd rs2 left2) (valL m l ts ns hd rs left) (valD m l ts ns hd rs2 left2) (valD m l ts ns hd rs left) = false := by
 have hp := make_plan hE h
 by_cases hp2' : planErr m l ts ns hd rs2 left2 ≠ 0
 ·unfold betB; simp [hp2']
 have hp2 : planErr m l ts ns hd rs2 left2 = 0 := Classical.not_not.1 hp2'
 clear hp2'
 obtain ⟨m', hm, hK⟩ := nightOk_of hE
 obtain rfl : m = m' := by omega
 have hPp := (h.plan (pos_of hK)).perm
 rw [allR_rtL] at hPp
 have hQ := planOk_of hp2
 rw [valL, valL, valD, valD, if_pos hp, if_pos hp2, if_pos hp, if_pos hp2]
 -- the route of Make
 obtain ⟨x, hx, hxa, hxd⟩ : ∃ x, IsBest (mvL ns) (secsD m l ts ns hd ((0 : Nat) : Int)) (SubP m l ts ns hd ((0 : Nat) : Int) (upto ns.length)) (some x) ∧ allN rs = x ∧ drvL m l ts ns hd rs = outD m l ts ns hd ((0 : Nat) : Int) x := by
  rw [h1] at h
  generalize hrl : rtL rs = R at h
  cases h with
  | skip h0 hr =>
   cases h0
   rcases hr with ⟨_, hr⟩ | ⟨h7, _⟩
   ·have hrs : rs = [] := by unfold rtL at hrl; exact List.map_eq_nil_iff.1 hrl
    subst hrs
    exact ⟨[], hr, rfl, by rw [outD_nil hE (by omega)]; rfl⟩
   ·rw [upto_len] at h7; omega
  | @add _ _ _ x h0 hr hx =>
   cases h0
   rcases hr with ⟨_, hr⟩ | ⟨h7, _⟩
   ·obtain ⟨r, rfl, h3, h4⟩ : ∃ r, rs = [r] ∧ r.trk = ((0 : Nat) : Int) ∧ r.nd.l = x := by
     unfold rtL at hrl
     cases rs with
     | nil => cases hrl
     | cons r rs =>
      cases rs with
      | nil => simp at hrl; exact ⟨r, rfl, hrl.1, hrl.2⟩
      | cons r' rs => simp at hrl
    refine ⟨x, hr, by simp [allN, h4], ?_⟩
    unfold drvL
    simp [h3, h4]
   ·rw [upto_len] at h7; omega
 -- the route of the other plan
 have hq1 : rs2 = [] ∨ ∃ r, rs2 = [r] ∧ r.trk = ((0 : Nat) : Int) := by
  have htr : ∀ i (hi : i < rs2.length), rs2[i].trk = 0 := fun i hi => by
   obtain ⟨m2, q, t, hm2, hq, hW⟩ := walkOk_of (hQ.walks i hi)
   have := hW.hq
   omega
  cases rs2 with
  | nil => exact .inl rfl
  | cons r rs2 =>
   cases rs2 with
   | nil => exact .inr ⟨r, rfl, htr 0 (by simp)⟩
   | cons r' rs2 =>
    have h3 := htr 0 (by simp)
    have h4 := htr 1 (by simp)
    have := hQ.trk
    simp at h3 h4
    simp [h3, h4] at this
 obtain ⟨y, hy, hya, hyd⟩ : ∃ y, SubP m l ts ns hd ((0 : Nat) : Int) (upto ns.length) y ∧ allN rs2 = y ∧ drvL m l ts ns hd rs2 = outD m l ts ns hd ((0 : Nat) : Int) y := by
  rcases hq1 with rfl | ⟨r, rfl, hr⟩
  ·refine ⟨[], ⟨⟨by simp, by simp⟩, ?_⟩, rfl, by rw [outD_nil hE (by omega)]; rfl⟩
   have h0 : askErr m l ts ns hd ((0 : Nat) : Int) [] = 0 := ask_zero hE (by omega) (by simp) (by simp) (by simp)
   obtain ⟨m', hm, hk⟩ := askOk_of h0
   obtain rfl : m = m' := by omega
   exact hk.nil
  ·have hw := hQ.walks 0 (by simp)
   simp only [List.getElem_cons_zero] at hw
   rw [hr] at hw
   have hn := hQ.nd
   rw [List.nodup_append] at hn
   have ha : allN [r] = r.nd.l := by simp [allN]
   rw [ha] at hn
   refine ⟨r.nd.l, ⟨⟨hn.1, fun i hi => ?_⟩, hw⟩, ha, ?_⟩
   ·have hg := hQ.good
    unfold goodAll at hg
    rw [Bool.and_eq_true, decide_eq_true_eq] at hg
    rw [ha] at hg
    exact upto_mem.2 (hg.1 i (List.mem_append_left _ hi))
   ·unfold drvL
    simp [hr]
 have hpx := mvL_perm (ns := ns) hPp
 have hpy := mvL_perm (ns := ns) (perm_of_good hQ.nd hQ.good)
 have happ : ∀ a b : List Int, mvL ns (a ++ b) = mvL ns a + mvL ns b := fun a b => by unfold mvL; rw [List.map_append, List.sum_append]
 rw [happ, hxa] at hpx
 rw [happ, hya] at hpy
 have hnw := hx.2 y hy
 unfold worse secsD at hnw
 rw [hxd, hyd]
 have key : ¬ (mvL ns left2 < mvL ns left ∨ (mvL ns left2 = mvL ns left ∧ outD m l ts ns hd ((0 : Nat) : Int) y < outD m l ts ns hd ((0 : Nat) : Int) x)) := by
  rintro (h | ⟨h, h'⟩)
  ·exact hnw (.inl (by omega))
  ·exact hnw (.inr ⟨by omega, .inl h'⟩)
 have hk : (decide (mvL ns left2 < mvL ns left) || (decide (mvL ns left2 = mvL ns left) && decide (outD m l ts ns hd ((0 : Nat) : Int) y < outD m l ts ns hd ((0 : Nat) : Int) x))) = false := by
  rw [Bool.eq_false_iff]
  intro h
  rw [Bool.or_eq_true, Bool.and_eq_true, decide_eq_true_eq, decide_eq_true_eq, decide_eq_true_eq] at h
  exact key h
 unfold betB
 rw [hk, Bool.and_false, Bool.and_false]
end
end Go.Proofs.YthobaaefdehoiaaGreat

/-
 Plain: the night of the example; a plan that serves all needs makes the bound exist.
-/
set_option linter.all false
namespace Go.Proofs.YthobaaefdehoiaaGreat
open Go Go.W Go.RowKit
def pL : List Edg := [⟨0, 1, 60⟩, ⟨1, 2, 30⟩, ⟨2, 0, 80⟩]
def pT : List Truck := [⟨0, 10, 0, 3600⟩]
def pN : List Need := [⟨1, 8⟩, ⟨2, -5⟩]
theorem pE : nightErr 3 pL pT pN 10 = 0 := by decide
theorem pRoad : RoadOk 3 pL := by
 obtain ⟨m, hm, hN⟩ := nightOk_of pE
 obtain rfl : m = 3 := by omega
 exact hN.road
theorem pEdge {i u v : Nat} {w : Int} (h : EdgeAt pL i u v w) : (u = 0 ∧ v = 1 ∧ w = 60) ∨ (u = 1 ∧ v = 2 ∧ w = 30) ∨ (u = 2 ∧ v = 0 ∧ w = 80) := by
 obtain ⟨hi, h1, h2, h3⟩ := h
 have hi6 : i < 3 := hi
 match i, hi6, hi, h1, h2, h3 with
 | 0, _, _, h1, h2, h3 => have h1 : (0 : Int) = u := h1; have h2 : (1 : Int) = v := h2; have h3 : (60 : Int) = w := h3; omega
 | 1, _, _, h1, h2, h3 => have h1 : (1 : Int) = u := h1; have h2 : (2 : Int) = v := h2; have h3 : (30 : Int) = w := h3; omega
 | 2, _, _, h1, h2, h3 => have h1 : (2 : Int) = u := h1; have h2 : (0 : Int) = v := h2; have h3 : (80 : Int) = w := h3; omega
def pa3 (a b c : Int) (v : Nat) : Int := if v = 0 then a else if v = 1 then b else c
theorem pRD {s : Nat} {a b c : Int} (h0 : pa3 a b c s = 0) (ha : 0 ≤ a) (hb : 0 ≤ b) (hc : 0 ≤ c) (hclo : b ≤ a + 60 ∧ c ≤ b + 30 ∧ a ≤ c + 80)
  (hpar : ∀ v, v < 3 → v ≠ s → ∃ u i w, u < 3 ∧ EdgeAt pL i u v w ∧ pa3 a b c v = pa3 a b c u + w) : RD pL 3 s (fun _ => true) (pa3 a b c) where
 src := ⟨rfl, h0⟩
 clo i u v w hE _ _ _ := by
  refine ⟨rfl, ?_⟩
  rcases pEdge hE with ⟨rfl, rfl, rfl⟩ | ⟨rfl, rfl, rfl⟩ | ⟨rfl, rfl, rfl⟩ <;> simp [pa3] <;> omega
 par v hv _ hvs := by
  obtain ⟨u, i, w, h1, h2, h3⟩ := hpar v hv hvs
  exact ⟨u, i, w, h1, rfl, h2, h3⟩
 nn v _ _ := by unfold pa3; split <;> (try split) <;> omega
theorem pRD0 : RD pL 3 0 (fun _ => true) (pa3 0 60 90) := pRD rfl (by omega) (by omega) (by omega) (by omega) fun v hv hne => by
 rcases (show v = 1 ∨ v = 2 by omega) with rfl | rfl
 ·exact ⟨0, 0, 60, by omega, ⟨by decide, rfl, rfl, rfl⟩, rfl⟩
 ·exact ⟨1, 1, 30, by omega, ⟨by decide, rfl, rfl, rfl⟩, rfl⟩
theorem pRD1 : RD pL 3 1 (fun _ => true) (pa3 110 0 30) := pRD rfl (by omega) (by omega) (by omega) (by omega) fun v hv hne => by
 rcases (show v = 0 ∨ v = 2 by omega) with rfl | rfl
 ·exact ⟨2, 2, 80, by omega, ⟨by decide, rfl, rfl, rfl⟩, rfl⟩
 ·exact ⟨1, 1, 30, by omega, ⟨by decide, rfl, rfl, rfl⟩, rfl⟩
theorem pRD2 : RD pL 3 2 (fun _ => true) (pa3 80 140 0) := pRD rfl (by omega) (by omega) (by omega) (by omega) fun v hv hne => by
 rcases (show v = 0 ∨ v = 1 by omega) with rfl | rfl
 ·exact ⟨2, 2, 80, by omega, ⟨by decide, rfl, rfl, rfl⟩, rfl⟩
 ·exact ⟨0, 0, 60, by omega, ⟨by decide, rfl, rfl, rfl⟩, rfl⟩
theorem p01 : roadT 3 pL 0 1 = 60 := by rw [roadT_eq pRoad pRD0 (by omega)]; rfl
theorem p02 : roadT 3 pL 0 2 = 90 := by rw [roadT_eq pRoad pRD0 (by omega)]; rfl
theorem p12 : roadT 3 pL 1 2 = 30 := by rw [roadT_eq pRoad pRD1 (by omega)]; rfl
theorem p20 : roadT 3 pL 2 0 = 80 := by rw [roadT_eq pRoad pRD2 (by omega)]; rfl
theorem pW01 : walkE 3 pL pT pN 10 0 [0, 1] = 0 := by
 rw [walkE, if_neg (by rw [pE]; decide), if_neg (by decide)]
 simp [endT, goE, goT, goD, roadD, needAt, visitE, visitT, inB, startT, homeE, pN, pT, p01, p12, p20, absI]
theorem pD01 : outD 3 pL pT pN 10 0 [0, 1] = 170 := by
 rw [outD, if_pos pW01]
 simp [walkT, endT, goT, goD, roadD, needAt, visitT, startT, homeT, driveS, pN, pT, p01, p12, p20]
theorem pW10 : walkE 3 pL pT pN 10 0 [1, 0] ≠ 0 := by
 rw [walkE, if_neg (by rw [pE]; decide), if_neg (by decide)]
 simp [goE, goD, roadD, needAt, visitE, inB, startT, pN, pT, p02]
theorem pof01 {o : List Int} (h1 : o.Nodup) (h2 : ∀ i ∈ o, i ∈ [(0 : Int), 1]) : o = [] ∨ o = [0] ∨ o = [1] ∨ o = [0, 1] ∨ o = [1, 0] := by
 have h4 := h1.length_le_of_subset (l₂ := [0, 1]) h2
 match o, h1, h2, h4 with
 | [], _, _, _ => simp
 | [a], _, h2, _ =>
  have := h2 a (by simp)
  simp at this
  rcases this with rfl | rfl <;> simp
 | [a, b], h1, h2, _ =>
  have ha := h2 a (by simp)
  have hb := h2 b (by simp)
  simp at ha hb
  rcases ha with rfl | rfl <;> rcases hb with rfl | rfl <;> first | (exact absurd h1 (by decide)) | simp
theorem pR10 : RouteR 3 pL pT pN 10 0 [0, 1] [0, 1] := .inl ⟨by decide, ⟨⟨⟨by decide, fun i hi => hi⟩, pW01⟩, fun o ho => by
 obtain ⟨⟨h1, h2⟩, h3⟩ := ho
 rcases pof01 h1 h2 with rfl | rfl | rfl | rfl | rfl
 ·rintro (h | ⟨h, _⟩) <;> exact absurd h (by decide)
 ·rintro (h | ⟨h, _⟩) <;> exact absurd h (by decide)
 ·rintro (h | ⟨h, _⟩) <;> exact absurd h (by decide)
 ·exact worse_irr _ _ _
 ·exact absurd h3 pW10⟩⟩
theorem pMk {e : Int} {R : List (Int × List Int)} {left : List Int} (h : MakeAns pL pT pN 10 3 e R left) : e = 0 ∧ R = [(0, [0, 1])] ∧ left = [] := by
 refine h.unique (e' := 0) (R' := [(0, [0, 1])]) (left' := []) ⟨pE.symm, fun h => absurd rfl h, fun _ => ⟨3, rfl, ?_⟩⟩
 have h0 : MkR 3 pL pT pN 10 0 [] [0, 1] := MkR.start
 exact MkR.add h0 pR10 (by simp)
theorem pPl {r : Rt} (h1 : r.trk = 0) (h2 : r.nd.l = [0, 1]) : planErr 3 pL pT pN 10 [r] [] = 0 := by
 have hr : routesE 3 pL pT pN 10 [r] = 0 := by
  rw [routesE, h1, h2, pW01]; simp [routesE]
 have ha : allN [r] = [0, 1] := by simp [allN, h2]
 rw [planErr, if_neg (by rw [pE]; simp), if_neg (by rw [hr]; simp), ha, List.map_cons, h1]
 decide
theorem pDr {r : Rt} (h1 : r.trk = 0) (h2 : r.nd.l = [0, 1]) : drvL 3 pL pT pN 10 [r] = 170 := by
 unfold drvL; simp [h1, h2, pD01]
theorem pTm : timL 3 pL pN = [[30]] := by
 have h : timL 3 pL pN = [[roadT 3 pL 1 2]] := rfl
 rw [h, p12]
theorem pFe : findErr 3 pL pT pN 10 = 0 := by
 rw [findErr, if_neg (by rw [pE]; simp), show (3 : Int).toNat = 3 from rfl, pTm, solveErr, if_neg (by decide), if_pos]
 intro u v hu hF
 have := hF 0 0 30 rfl (by omega)
 have := hu 0
 show Flo.dn [5] v ≤ Flo.dn [8] u
 simp [Flo.dn]; omega
theorem pDM : Flo.DMax [8] [5] [[30]] 150 := by
 refine ⟨⟨fun _ => 0, fun _ => 30, fun _ => Int.le_refl _, fun j k x h _ => by obtain ⟨_, _, rfl⟩ := tm1 h; show (30 : Int) ≤ 0 + 1 * 30; omega, by simp [Flo.dn]⟩, fun u v hu hF => ?_⟩
 have := hF 0 0 30 rfl (by omega)
 have := hu 0
 simp [Flo.dn]; omega
theorem pSecs {s b : Int} {us vs : List Int} (h : FindRet 3 pL pT pN 10 s b us vs) : s = 15 ∧ b = 5 := by
 obtain ⟨m, T, hm, _, hS, h1, h2, _⟩ := h.good pFe
 obtain rfl : m = 3 := by omega
 have hx := hS.max
 rw [pTm] at hx
 obtain rfl : T = 150 := hx.unique pDM
 exact ⟨h1.trans (by decide), h2.trans (by decide)⟩
theorem pGap {r : Rt} (h1 : r.trk = 0) (h2 : r.nd.l = [0, 1]) : gapE 3 pL pT pN 10 [r] [] = 0 := by
 rw [gapE, if_neg (by rw [pPl h1 h2]; simp), if_neg (by simp), pFe]
theorem pGapV {r : Rt} {x : Int} (h1 : r.trk = 0) (h2 : r.nd.l = [0, 1]) (h : GapAns 3 pL pT pN 10 [r] [] x) : x = 155 := by
 obtain ⟨_, _, _, s, b, us, vs, hR, rfl⟩ := h.good (pGap h1 h2)
 rw [pDr h1 h2, (pSecs hR).1]; rfl
theorem complete_ok {n hd : Int} {l : List Edg} {ts : List Truck} {ns : List Need} {rs : List Rt} (hp : PlanOk n l ts ns hd rs []) (ht : 0 < ts.length) : findErr n l ts ns hd = 0 := by
 have hr := sound_reach hp
 obtain ⟨m, rfl, hN⟩ := nightOk_of hp.night
 rw [findErr, if_neg (by simp [hp.night]), solveErr] at hr ⊢
 have hg := plan_gain (u := fun _ => 1) (v := fun _ => 1) hp hN (Int.le_refl 0) (fun _ => by omega) (by intro j k x h _; show (1 : Int) ≤ 1 + 0 * x; omega)
 rw [Int.zero_mul] at hg
 have hd1 : ∀ D : List Int, Flo.dn D (fun _ => 1) = D.sum := fun D => by
  induction D with
  | nil => rfl
  | cons d D ih => rw [Flo.dn, List.sum_cons, ih, Int.mul_one]
 rw [hd1, hd1] at hg
 have hc : capL ts ≠ 0 := by
  have h1 := capL_mem (List.getElem_mem ht)
  have h2 := (hN.tr _ (List.getElem_mem ht)).2.1
  omega
 have he : emptyB (capL ts) (movC ns).sum (movD ns).sum = false := by
  unfold emptyB
  simp [hc]; omega
 rw [if_neg (by rw [he]; simp)] at hr ⊢
 split
 ·rfl
 ·rename_i h; rw [if_neg h] at hr; exact absurd rfl hr
end Go.Proofs.YthobaaefdehoiaaGreat

/-
 Walks: quick, driving, night.
-/
set_option linter.all false
namespace Go.Proofs.YthobaaefdehoiaaGreat
open Go Go.W Go.RowKit
def quickB (nl tl ll fl : Nat) (rs : List Rt) : Bool := decide (nl ≤ 5) && (decide (tl ≤ 3) && (decide (ll ≤ 60) && (decide (rs.length ≤ 5) && (decide (fl ≤ 8) && decide (∀ r ∈ rs, r.nd.l.length ≤ 8)))))
set_option maxHeartbeats 1000000 in
theorem topQuick (n hd : Int) (A B C P F : Option Addr) (ll tl nl fl ca cb cc : Nat) (rs : List Rt) (cp cf : Nat) (w0 : World) (hP : RowsAt 2 rtCells w0 P rs) :
  Calls Tryz.prog 4 #[.agg #[I n, .slice A ll ca, .slice B tl cb, .slice C nl cc, I hd], .agg #[.slice P rs.length cp, .slice F fl cf]] w0 fun e w' => e = .returned (.bool (quickB nl tl ll fl rs)) ∧ Below w0.heap.size w0 w' := by
 have H := SH.refl w0
 refine Calls.ofWP Tryz.func4 rfl Tryz.results4 Tryz.ntmps4 rfl <| Y.qr <| Y.bx (cA rfl) H ?_
 clear H; intro g2 w H
 refine Y.bx (cA rfl) H ?_
 clear H; intro g3 w H
 refine Y.v (Ev.asB rfl) <| Y.z <| Y.q <| Y.qr <| Y.fa rfl rfl <| Y.j H 1 rfl rfl rfl <| Y.v (Y.n rfl) <| Y.v (Ev.gtr rfl rfl) <| Y.v (Ev.mvB rfl) <| Y.g rfl rfl (fun hg => Y.f rfl rfl) <| Y.y rfl rfl H 1 (fun hg => gvE hg rfl) rfl rfl <| Y.g rfl rfl (fun hg => Ev.len (el_run rfl) (gvE hg rfl)) <| Y.g rfl rfl (fun hg => Ev.gtr (gvE hg rfl) rfl) <| Y.v (Ev.pickOr rfl rfl rfl) <| Y.v (Ev.mvB rfl) <| Y.g rfl rfl (fun hg => Y.f rfl rfl) <| Y.g rfl rfl (fun hg => Ev.fieldAddr (fld_run rfl) (gvE hg rfl)) <| Y.y rfl rfl H 1 (fun hg => gvE hg rfl) rfl rfl <| Y.g rfl rfl (fun hg => Ev.len (el_run rfl) (gvE hg rfl)) <| Y.g rfl rfl (fun hg => Ev.gtr (gvE hg rfl) rfl) <| Y.v (Ev.pickOr rfl rfl rfl) <| Y.v (Ev.mvB rfl) <| Y.g rfl rfl (fun hg => Y.f rfl rfl) <| Y.y rfl rfl H 0 (fun hg => gvE hg rfl) rfl rfl <| Y.g rfl rfl (fun hg => Ev.len (el_run rfl) (gvE hg rfl)) <| Y.g rfl rfl (fun hg => Ev.gtr (gvE hg rfl) rfl) <| Y.v (Ev.pickOr rfl rfl rfl) <| Y.v (Ev.mvB rfl) <| Y.g rfl rfl (fun hg => Y.f rfl rfl) <| Y.y rfl rfl H 0 (fun hg => gvE hg rfl) rfl rfl <| Y.g rfl rfl (fun hg => Ev.len (el_run rfl) (gvE hg rfl)) <| Y.g rfl rfl (fun hg => Ev.gtr (gvE hg rfl) rfl) <| Y.v (Ev.pickOr rfl rfl rfl) <| Y.z ?_
 refine WP.cond rfl (fun hc1 => ?_) (fun hc1 => ?_)
 ·refine Y.qr <| Y.v (Ev.asB rfl) <| Y.z ?_
  refine WP.ret ⟨_, rfl, ?_⟩
  refine ⟨ret_b rfl ?_, H.below⟩
  unfold quickB
  simp at hc1
  grind
 have hg : nl ≤ 5 ∧ tl ≤ 3 ∧ ll ≤ 60 ∧ rs.length ≤ 5 ∧ fl ≤ 8 := by
  simp at hc1
  omega
 refine Y.k <| Y.q <| Y.qr <| Y.b rfl <| Y.z <| WP.block <| WP.loop [4, 5, 35, 36, 37, 38, 39, 40, 41, 42, 43, 44, 45, 46, 47, 48, 49] (fun k e w' => ∃ j : Nat, j + k = rs.length ∧ e 5 = I j ∧ (∀ i (h : i < rs.length), i < j → rs[i].nd.l.length ≤ 8) ∧ SH w0 [] w' [⟨g3, 32, [.slice P rs.length cp, .slice F fl cf]⟩]) (rs.length) (⟨0, by omega, rfl, fun i _ h => absurd h (by omega), H.drop Sb.out⟩) ?_
 clear H
 rintro k u w ⟨j, hk, h3, hall, H⟩
 refine WP.know (t := 5) h3 <| Y.q <| Y.qr <| Y.a rfl <| Y.fa rfl rfl <| Y.j H 0 rfl rfl rfl <| Y.v (Y.n rfl) <| Y.v (Ev.lss rfl rfl) <| Y.z ?_
 refine WP.cond rfl (fun hc4 => ?_) (fun hc4 => ?_)
 ·have hlt : j < rs.length := by simpa using hc4
  obtain ⟨b1, o1, rfl, hx⟩ := hP j hlt
  obtain ⟨q1, q2, _⟩ := hx
  refine Y.k <| Y.q <| WP.block <| Y.qr <| Y.fa rfl rfl <| Y.j H 0 rfl rfl rfl <| Y.a rfl <| Y.v (Y.X rfl rfl rfl rfl rfl) <| Y.fa rfl rfl <| Y.v (Y.c (H.ld0 (by assumption)) rfl) ?_
  refine Y.v (Y.n rfl) <| Y.v (Ev.gtr rfl rfl) <| Y.z ?_
  refine WP.cond rfl (fun hc6 => ?_) (fun hc6 => ?_)
  ·refine Y.qr <| Y.v (Ev.asB rfl) <| Y.z ?_
   refine WP.ret ⟨_, rfl, ?_⟩
   have hne : ¬ rs[j].nd.l.length ≤ 8 := by simp at hc6; omega
   have h : quickB nl tl ll fl rs = false := by
    unfold quickB
    rw [decide_eq_false (p := ∀ r ∈ rs, r.nd.l.length ≤ 8) fun h => hne (h _ (List.getElem_mem hlt))]
    simp
   exact ⟨by rw [h]; rfl, H.below⟩
  have hne : rs[j].nd.l.length ≤ 8 := by simp at hc6; omega
  refine Y.k <| Y.r <| Y.a rfl <| Y.v (Y.p rfl rfl) <| Y.b rfl <| Y.z ?_
  refine ⟨Y.ag, k - 1, by omega, j + 1, by omega, rfl, fun i h hij => ?_, H⟩
  rcases Nat.lt_succ_iff_lt_or_eq.1 hij with h3 | rfl
  ·exact hall i h h3
  ·exact hne
 refine WP.exit <| XB.hit <| Y.qr <| Y.v (Ev.asB rfl) <| Y.z ?_
 refine WP.ret ⟨_, rfl, ?_⟩
 have hj : j = rs.length := by simp at hc4; omega
 have h : quickB nl tl ll fl rs = true := by
  unfold quickB
  rw [decide_eq_true hg.1, decide_eq_true hg.2.1, decide_eq_true hg.2.2.1, decide_eq_true hg.2.2.2.1, decide_eq_true hg.2.2.2.2, decide_eq_true]
  ·rfl
  ·intro r hr
   obtain ⟨i, hi, rfl⟩ := List.mem_iff_getElem.1 hr
   exact hall i hi (by omega)
 exact ⟨by rw [h]; rfl, H.below⟩
set_option maxHeartbeats 1000000 in
theorem topDriving (n hd : Int) (A B C P F : Option Addr) (l : List Edg) (ts : List Truck) (ns : List Need) (rs : List Rt) (left : List Int) (ca cb cc cp cf : Nat) (w0 : World) (hN : NightAt w0 A B C l ts ns cc)
  (hP : RtsAt w0 P rs) (hE0 : planErr n l ts ns hd rs left = 0) :
  Calls Tryz.prog 11 #[.agg #[I n, .slice A l.length ca, .slice B ts.length cb, .slice C ns.length cc, I hd], .agg #[.slice P rs.length cp, .slice F left.length cf]] w0 fun e w' =>
   e = .returned (.tuple #[I (drvL n l ts ns hd rs), .bool true]) ∧ Below w0.heap.size w0 w' := by
 have H := SH.refl w0
 have hfew := hP.few
 have hK := planOk_of hE0
 refine Calls.ofWP Tryz.func11 rfl Tryz.results11 Tryz.ntmps11 rfl <| Y.qr <| Y.bx (cA rfl) H ?_
 clear H; intro g2 w H
 refine Y.bx (cA rfl) H ?_
 clear H; intro g3 w H
 refine Y.b rfl <| Y.v (Ev.asB rfl) <| Y.z <| Y.qr <| Y.b rfl <| Y.z <| Y.q <| Y.qr <| Y.b rfl <| Y.z <| WP.block <| WP.loop [4, 5, 6, 7, 8, 9, 10, 11, 12, 13, 14, 15, 16, 17, 18, 19, 20, 21, 22, 23, 24, 25, 26, 27, 28, 29, 30, 31] (fun k e w' => ∃ j : Nat, j + k = rs.length ∧ e 7 = I j ∧ e 6 = I (drvL n l ts ns hd (rs.take j)) ∧ (0 ≤ drvL n l ts ns hd (rs.take j) ∧ drvL n l ts ns hd (rs.take j) ≤ 2000000 * j) ∧ SH w0 [] w' [⟨g3, 32, [.slice P rs.length cp, .slice F left.length cf]⟩, ⟨g2, 28, [I n, .slice A l.length ca, .slice B ts.length cb, .slice C ns.length cc, I hd]⟩]) (rs.length) (⟨0, by omega, rfl, rfl, by simp [drvL], H⟩) ?_
 clear H
 rintro k u w ⟨j, hk, h7, h6, hbd, H⟩
 refine WP.know (t := 7) h7 (WP.know (t := 6) h6 ?_)
 refine Y.q <| Y.qr <| Y.a rfl <| Y.fa rfl rfl <| Y.j H 0 rfl rfl rfl <| Y.v (Y.n rfl) <| Y.v (Ev.lss rfl rfl) <| Y.z ?_
 refine WP.cond rfl (fun hc3 => ?_) (fun hc3 => ?_)
 ·have hlt : j < rs.length := by simpa using hc3
  obtain ⟨b, o, rfl, hc⟩ := hP.rows j hlt
  have hr := hP.ints rs[j] (List.getElem_mem hlt)
  have hrl := hP.len rs[j] (List.getElem_mem hlt)
  have hrc := hP.cap rs[j] (List.getElem_mem hlt)
  have hE := hK.walks j hlt
  have hob := outD_bd hE
  refine Y.k <| Y.q <| WP.block <| Y.q ?_
  refine WP.rheldC [8, 9, 17, 18, 19, 20, 21, 22, 23, 24, 25, 26] (fun u w' => u 8 = I (outD n l ts ns hd rs[j].trk rs[j].nd.l) ∧ u 9 = I (walkE n l ts ns hd rs[j].trk rs[j].nd.l) ∧ SH w0 [] w' [⟨g3, 32, [.slice (some ⟨b, o, none⟩) rs.length cp, .slice F left.length cf]⟩, ⟨g2, 28, [I n, .slice A l.length ca, .slice B ts.length cb, .slice C ns.length cc, I hd]⟩]) mixed H ?_ ?_
  ·clear H; intro w hbw5 H
   refine Y.t 0 H rfl rfl (fun w H => Y.o H 1 rfl rfl) <| Y.t 1 H rfl rfl (fun w H => Y.f rfl rfl) <| Y.t 2 H rfl rfl (fun w H => Y.l H 0 rfl rfl rfl) <| Y.t 3 H rfl rfl (fun w H => Y.m rfl) <| Y.t 4 H rfl rfl (fun w H => Y.X rfl rfl rfl rfl rfl) <| Y.t 5 H rfl rfl (fun w H => Ev.loadN (rtCells rs[j]) (agg_run rfl) (size_run rfl) rfl (cellsAt_sh H hc)) <| Y.A1 6 rfl rfl <| OPS.call (d := some 24) rfl rfl rfl (EvC.func (fun_run rfl)) (truckDriving n hd rs[j].trk A B C rs[j].nd.A l ts ns rs[j].nd.l ca cb cc rs[j].nd.cap _ (hN.sh H).l (hN.sh H).t (hN.sh H).n hN.c (hr.sh H) (by unfold maxLen; omega) hrc) ?_
   rintro _ w ⟨rfl, hb⟩
   refine ⟨_, rfl, ?_⟩
   replace H := H.toBelow hb
   clear hb
   refine Y.z <| ⟨(H), ?_⟩
   refine Y.t 7 H rfl rfl (fun w H => Ev.mvT rfl) <| Y.t 8 H rfl rfl (fun w H => Ev.extract rfl rfl) <| Y.t 9 H rfl rfl (fun w H => Ev.extract rfl rfl) <| Y.t 10 H rfl rfl (fun w H => Ev.asI rfl) <| Y.t 11 H rfl rfl (fun w H => Ev.asI rfl) <| Y.dn ?_
   exact ⟨Y.ag, rfl, rfl, H⟩
  clear H
  rintro u w ⟨h8, h9, H⟩
  refine WP.know (t := 8) h8 (WP.know (t := 9) h9 ?_)
  refine Y.q <| Y.qr <| Y.a rfl <| Y.v (Ev.neq rfl rfl) <| Y.z ?_
  refine WP.cond rfl (fun hc6 => ?_) (fun hc6 => ?_)
  ·refine Y.qr <| Y.b rfl <| Y.v (Ev.asB rfl) <| Y.z ?_
   refine WP.ret ⟨_, rfl, ?_⟩
   exact absurd hc6 (by simp [hE])
  refine Y.k <| Y.r <| Y.a rfl <| Y.a rfl <| Y.v (Y.p rfl rfl) <| Y.b rfl <| Y.z <| Y.r <| Y.a rfl <| Y.v (Y.p rfl rfl) <| Y.b rfl <| Y.z ?_
  exact ⟨Y.ag, k - 1, by omega, j + 1, by omega, rfl, by rw [drvL_succ hlt]; rfl, by rw [drvL_succ hlt]; omega, H⟩
 have hj : j = rs.length := by simp at hc3; omega
 subst hj
 rw [List.take_length]
 refine WP.exit <| XB.hit <| Y.qr <| Y.a rfl <| Y.b rfl <| Y.v (Ev.asB rfl) <| Y.z ?_
 refine WP.ret ⟨_, rfl, ?_⟩
 exact ⟨rfl, H.below⟩
abbrev pBn (g : Nat) (A B : Option Addr) (b cb : Nat) (C : Option Addr) : Blk := ⟨g, 28, [I 3, .slice A 3 3, .slice B b cb, .slice C 2 2, I 10]⟩
abbrev pV (A B C : Option Addr) (cb : Nat) : Value := .agg #[I 3, .slice A 3 3, .slice B 1 cb, .slice C 2 2, I 10]
set_option maxHeartbeats 1000000 in
theorem topNight (w0 : World) : Calls Tryz.prog 13 #[I 1] w0 fun e w' => ∃ (A B C : Option Addr) (cb : Nat) (L : List Blk), e = .returned (pV A B C cb) ∧ Reads L (fun w => NightAt w A B C pL pT pN 2) ∧ SH w0 [] w' L := by
 have H := SH.refl w0
 refine Calls.ofWPc Tryz.func13 rfl Tryz.results13 Tryz.ntmps13 rfl <| Y.qr <| Y.al H rfl rfl ?_
 clear H; intro g2 w H
 refine Y.z <| Y.qr <| Y.v (Ev.build (bld_86_0_1_2 rfl rfl rfl)) <| Y.v (Ev.build (bld_86_0_1_2 rfl rfl rfl)) <| Y.v (Ev.build (bld_86_0_1_2 rfl rfl rfl)) <| OPS.buildSlice rfl rfl rfl rfl (bsl_22_3_0_1_2 rfl rfl rfl) H ?_
 clear H; intro g8 w H
 refine Y.v (Ev.build (bld_24_0_1 rfl rfl)) <| Y.v (Ev.build (bld_67_0_1 rfl rfl)) <| Y.v (Ev.build (bld_67_0_1 rfl rfl)) <| OPS.buildSlice rfl rfl rfl rfl (bsl_26_2_0_1 rfl rfl) H ?_
 clear H; intro g12 w H
 refine Y.v (Ev.build (bld_28_0_2_3 rfl rfl rfl)) <| Y.al H rfl rfl ?_
 clear H; intro g3 w H
 refine Y.ss 0 H rfl (cA rfl) rfl ?_
 clear H; intro w H
 refine Y.z <| Y.q <| Y.qr <| Y.b rfl <| Y.z <| WP.block <| WP.loop [4, 14, 15, 16, 17, 18, 19, 20, 21, 22, 23, 24, 25] (fun k e w' => ∃ (j : Nat) (B : Option Addr) (cb : Nat) (Lb : List Blk), j + k = 1 ∧ e 4 = I j ∧ OwnS B cb j ((pT.take j).flatMap truckCells) 64 4 Lb ∧ SH w0 [] w' (pBn g3 (some ⟨g8, 0, none⟩) B j cb (some ⟨g12, 0, none⟩) :: ⟨g12, 67, pN.flatMap needCells⟩ :: ⟨g8, 86, pL.flatMap edgCells⟩ :: ⟨g2, 28, [I 0, .slice none 0 0, .slice none 0 0, .slice none 0 0, I 0]⟩ :: Lb)) (1) (⟨0, none, 0, [], by omega, rfl, OwnS.nil, H⟩) ?_
 clear H
 rintro k u w ⟨j, B, cb, Lb, hk, h4, hO, H⟩
 refine WP.know (t := 4) h4 <| Y.q <| Y.qr <| Y.a rfl <| Y.a rfl <| Y.v (Ev.lss rfl rfl) <| Y.z ?_
 refine WP.cond rfl (fun hc3 => ?_) (fun hc3 => ?_)
 ·have hlt : j < 1 := by simp at hc3; omega
  obtain rfl : j = 0 := by omega
  refine Y.k <| Y.q <| WP.block <| Y.r <| Y.fa rfl rfl <| Y.j H 0 rfl rfl rfl <| Y.v (Ev.build (bld_62_1 rfl)) <| Y.v (Ev.build (bld_64_1_2 rfl rfl)) <| OPS.buildSlice rfl rfl rfl rfl (bsl_25_1_0 rfl) H ?_
  clear H; intro g23 w H
  refine OPS.append (m := 1) (news := truckCells ⟨0, 10, 0, 3600⟩) (R := ⟨g23, 64, truckCells ⟨0, 10, 0, 3600⟩⟩ :: pBn g3 (some ⟨g8, 0, none⟩) B 0 cb (some ⟨g12, 0, none⟩) :: ⟨g12, 67, pN.flatMap needCells⟩ :: ⟨g8, 86, pL.flatMap edgCells⟩ :: ⟨g2, 28, [I 0, .slice none 0 0, .slice none 0 0, .slice none 0 0, I 0]⟩ :: []) rfl rfl rfl rfl rfl (sl_run rfl) rfl rfl hO rfl (src_own H 0 rfl) rfl (by omega) (by unfold maxLen; omega) H (List.Perm.refl _) ?_
  clear H hO; intro B cb Lb w hO H
  simp only [List.cons_append, List.nil_append] at H
  refine Y.fa rfl rfl <| Y.ss 1 H rfl (cS rfl) rfl ?_
  clear H; intro w H
  refine Y.z <| Y.r <| Y.a rfl <| Y.v (Y.p rfl rfl) <| Y.b rfl <| Y.z ?_
  exact ⟨Y.ag, k - 1, by omega, 1, B, cb, Lb, by omega, rfl, hO, H.drop Sb.out⟩
 refine WP.exit <| XB.hit <| Y.qr <| Y.v (Y.o H 0 rfl rfl) <| Y.ss 3 H rfl (cA rfl) rfl ?_
 clear H; intro w H
 refine Y.z ?_
 refine WP.ret ⟨[_], ⟨(by exact resCellA 3 H rfl (agg_run rfl) (size_run rfl) (by rfl) rfl), trivial⟩, ?_⟩
 have hj : j = 1 := by simp at hc3; omega
 subst hj
 exact ⟨_, B, _, cb, ⟨g12, 67, pN.flatMap needCells⟩ :: ⟨g8, 86, pL.flatMap edgCells⟩ :: Lb, rfl, (fun w0 S w H => ⟨rowsOwn' (enc := edgCells) (sz := 3) (l := pL) (fun _ => rfl) H 1 rfl, (hO.rows (R := []) (enc := truckCells) (l := pT) (fun _ => rfl) (by omega) (H.drop (L' := Lb) Sb.out)).1, rowsOwn' (enc := needCells) (sz := 2) (l := pN) (fun _ => rfl) H 0 rfl, by decide⟩), H.drop Sb.out⟩
end Go.Proofs.YthobaaefdehoiaaGreat

/-
 Walk: planAwake.
-/
set_option linter.all false
namespace Go.Proofs.YthobaaefdehoiaaGreat
open Go Go.W Go.RowKit
abbrev plB (g : Nat) (P : Option Addr) (n c : Nat) (F : Option Addr) (k d : Nat) : Blk := ⟨g, 32, [.slice P n c, .slice F k d]⟩
abbrev boB (g : Nat) (s b : Int) (AU : Option Addr) (nu cu : Nat) (AV : Option Addr) (nv cv : Nat) : Blk := ⟨g, 40, [I s, I b, .slice AU nu cu, .slice AV nv cv]⟩
section
variable (A B C : Option Addr) (cb : Nat) (w0 : World)
theorem pMake (hN : NightAt w0 A B C pL pT pN 2) : Calls Tryz.prog 6 #[pV A B C cb] w0 fun e w' =>
  ∃ (r : Rt) (P F : Option Addr) (cp cf : Nat) (L : List Blk), e = .returned (.tuple #[.agg #[.slice P 1 cp, .slice F 0 cf], I 0]) ∧ (r.trk = 0 ∧ r.nd.l = [0, 1]) ∧ Reads L (fun w => RtsAt w P [r] ∧ IntsAt w F []) ∧ SH w0 [] w' L := by
 refine (rebMake 3 10 A B C pL pT pN 3 cb 2 w0 hN).mono ?_
 rintro e w' ⟨er, rs, left, P, F, cp, cf, L, rfl, hA, _, hR, hS⟩
 obtain ⟨rfl, h2, rfl⟩ := pMk hA
 obtain ⟨r, rfl, h3⟩ : ∃ r, rs = [r] ∧ r.trk = 0 ∧ r.nd.l = [0, 1] := by
  unfold rtL at h2
  cases rs with
  | nil => cases h2
  | cons r rs =>
   cases rs with
   | nil => simp at h2; exact ⟨r, rfl, h2⟩
   | cons r' rs => simp at h2
 exact ⟨r, P, F, cp, cf, L, rfl, h3, hR, hS⟩
theorem pFind (hN : NightAt w0 A B C pL pT pN 2) : Calls Tryz.prog 8 #[pV A B C cb] w0 fun e w' =>
  ∃ (us vs : List Int) (AU AV : Option Addr) (cu cv : Nat) (L : List Blk), e = .returned (.tuple #[.agg #[I 15, I 5, .slice AU us.length cu, .slice AV vs.length cv], I 0]) ∧ FindRet 3 pL pT pN 10 15 5 us vs ∧ Reads L (fun w => IntsAt w AU us ∧ IntsAt w AV vs) ∧ SH w0 [] w' L := by
 refine (boundFind 3 10 A B C pL pT pN 3 cb 2 w0 hN).mono ?_
 rintro e w' ⟨s, b, us, vs, AU, AV, cu, cv, L, rfl, hR, hr, hS⟩
 obtain ⟨rfl, rfl⟩ := pSecs hR
 rw [pFe]
 exact ⟨us, vs, AU, AV, cu, cv, L, rfl, hR, hr, hS⟩
theorem pGapC (P F : Option Addr) (r : Rt) (cp cf : Nat) (hN : NightAt w0 A B C pL pT pN 2) (hr : r.trk = 0 ∧ r.nd.l = [0, 1]) (hP : RtsAt w0 P [r]) (hF : IntsAt w0 F []) : Calls Tryz.prog 14 #[pV A B C cb, .agg #[.slice P 1 cp, .slice F 0 cf]] w0 fun e w' =>
  e = .returned (.tuple #[I 155, I 0]) ∧ Below w0.heap.size w0 w' := by
 refine (rebGap 3 10 A B C P F pL pT pN [r] [] 3 cb 2 cp cf w0 hN hP hF (by decide) (by decide)).mono ?_
 rintro e w' ⟨x, rfl, hA, hb⟩
 rw [pGapV hr.1 hr.2 hA, pGap hr.1 hr.2]
 exact ⟨rfl, hb⟩
theorem pProvedC {us vs : List Int} (AU AV : Option Addr) (cu cv : Nat) (hN : NightAt w0 A B C pL pT pN 2) (hR : FindRet 3 pL pT pN 10 15 5 us vs) (hU : IntsAt w0 AU us) (hV : IntsAt w0 AV vs) : Calls Tryz.prog 10 #[pV A B C cb, .agg #[I 15, I 5, .slice AU us.length cu, .slice AV vs.length cv]] w0 fun e w' =>
  e = .returned (.bool true) ∧ Below w0.heap.size w0 w' := by
 refine (boundProved 3 10 15 5 A B C AU AV pL pT pN us vs 3 cb 2 cu cv w0 hN hU hV hR.short.1 hR.short.2).mono ?_
 rintro e w' ⟨r, rfl, h, hb⟩
 rw [h.2 (hR.proved pFe)]
 exact ⟨rfl, hb⟩
end
set_option maxHeartbeats 4000000 in
theorem topPlanAwake (w0 : World) : Calls Tryz.prog 5 #[] w0 fun e w' => e = .returned (.bool true) ∧ Below w0.heap.size w0 w' := by
 have H := SH.refl w0
 refine Calls.ofWP Tryz.func5 rfl Tryz.results5 Tryz.ntmps5 rfl <| Y.qr <| Y.v (Ev.asB rfl) <| Y.z <| Y.qr <| OPS.call (d := some 8) rfl rfl rfl (EvC.func (fun_run rfl)) (topNight _) ?_
 rintro _ w ⟨A1, B1, C1, cb1, L1, rfl, hN1, Hc⟩
 refine ⟨_, rfl, ?_⟩
 replace H := Hc
 clear Hc
 refine OPS.call (d := some 9) rfl rfl rfl (EvC.func (fun_run rfl)) (pMake A1 B1 C1 cb1 w (hN1.at H (List.Sublist.refl _))) ?_
 rintro _ w ⟨r, P, F, cp, cf, L2, rfl, hr, hR, Hc⟩
 refine ⟨_, rfl, ?_⟩
 replace H := SH.call (L1 := []) (Lv := []) (H.drop (List.nil_sublist _)) Hc
 clear Hc
 simp only [List.nil_append] at H
 refine Y.v (Ev.mvT rfl) <| Y.v (Ev.extract rfl rfl) <| Y.v (Ev.extract rfl rfl) <| Y.al H rfl rfl ?_
 clear H; intro g1 w H
 refine Y.ss 0 H rfl (cA rfl) rfl ?_
 clear H; intro w H
 refine Y.b rfl <| Y.z <| Y.qr <| OPS.call (d := some 13) rfl rfl rfl (EvC.func (fun_run rfl)) (topNight w) ?_
 rintro _ w ⟨A2, B2, C2, cb2, L3, rfl, hN2, Hc⟩
 refine ⟨_, rfl, ?_⟩
 replace H := (SH.call (L1 := _) (Lv := []) (by rw [List.append_nil]; exact H) Hc).perm List.perm_append_comm
 clear Hc
 refine OPS.call (d := some 14) rfl rfl rfl (EvC.func (fun_run rfl)) (pFind A2 B2 C2 cb2 w (hN2.at H (List.sublist_append_left _ _))) ?_
 rintro _ w ⟨us, vs, AU, AV, cu, cv, L4, rfl, hF, hR4, Hc⟩
 refine ⟨_, rfl, ?_⟩
 replace H := SH.call (L1 := plB g1 P 1 cp F 0 cf :: L2) (Lv := []) (by rw [List.append_nil]; exact H.drop (List.sublist_append_right _ _)) Hc
 clear Hc
 simp only [List.cons_append] at H
 refine Y.v (Ev.mvT rfl) <| Y.v (Ev.extract rfl rfl) <| Y.v (Ev.extract rfl rfl) <| Y.al H rfl rfl ?_
 clear H; intro g3 w H
 refine Y.ss 0 H rfl (cA rfl) rfl ?_
 clear H; intro w H
 refine Y.b rfl <| Y.z <| Y.q ?_
 refine WP.rheldC [5, 6, 17, 18, 19, 20, 21, 22] (fun u w' => u 5 = I 155 ∧ u 6 = I 0 ∧ SH w0 [] w' (boB g3 15 5 AU us.length cu AV vs.length cv :: plB g1 P 1 cp F 0 cf :: (L2 ++ L4))) mixed H ?_ ?_
 ·clear H; intro w hbw3 H
  refine Y.t 1 H rfl rfl (fun w H => Y.o H 1 rfl rfl) <| Y.A1 0 rfl rfl <| OPS.call (d := some 18) rfl rfl rfl (EvC.func (fun_run rfl)) (topNight _) ?_
  rintro _ w ⟨A3, B3, C3, cb3, L5, rfl, hN3, Hc⟩
  refine ⟨_, rfl, ?_⟩
  have E := (SH.call (L1 := _) (Lv := []) (by rw [List.append_nil]; exact H) Hc).perm List.perm_append_comm
  clear Hc H
  have H := E.drop (L' := boB g3 15 5 AU us.length cu AV vs.length cv :: plB g1 P 1 cp F 0 cf :: (L2 ++ L4)) (List.sublist_append_right _ _)
  refine Y.z <| ⟨(H), ?_⟩
  refine Y.A1 2 rfl rfl <| OPS.call (d := some 20) rfl rfl rfl (EvC.func (fun_run rfl)) (pGapC A3 B3 C3 cb3 w P F r cp cf (hN3.at E (List.sublist_append_left _ _)) hr (hR.at H Sb.out).1 (hR.at H Sb.out).2) ?_
  rintro _ w ⟨rfl, hb⟩
  refine ⟨_, rfl, ?_⟩
  replace H := H.toBelow hb
  clear hb E
  refine Y.z <| ⟨(H), ?_⟩
  refine Y.t 3 H rfl rfl (fun w H => Ev.mvT rfl) <| Y.t 4 H rfl rfl (fun w H => Ev.extract rfl rfl) <| Y.t 5 H rfl rfl (fun w H => Ev.extract rfl rfl) <| Y.t 6 H rfl rfl (fun w H => Ev.asI rfl) <| Y.t 7 H rfl rfl (fun w H => Ev.asI rfl) <| Y.dn ?_
  exact ⟨Y.ag, rfl, rfl, H⟩
 clear H
 rintro u w ⟨h5, h6, H⟩
 refine WP.know (t := 5) h5 (WP.know (t := 6) h6 ?_)
 refine Y.q ?_
 refine WP.rheldC [0, 23, 24, 25, 26, 27, 28, 29, 30, 31, 32, 33, 34, 35, 36, 37, 38, 39, 40, 41, 42, 43, 44, 45, 46, 47, 48, 49, 50, 51, 52, 53, 54, 55, 56, 57, 58, 59, 60, 61, 62, 63] (fun u w' => u 0 = .bool true ∧ SH w0 [] w' (boB g3 15 5 AU us.length cu AV vs.length cv :: plB g1 P 1 cp F 0 cf :: (L2 ++ L4))) mixed H ?_ ?_
 ·clear H; intro w hbw4 H
  refine Y.t 0 H rfl rfl (fun w H => Y.m rfl) <| Y.t 1 H rfl rfl (fun w H => Ev.eql rfl rfl) <| Y.t 2 H rfl rfl (fun w H => Ev.mvB rfl) <| OPH.takeY 3 rfl rfl rfl rfl rfl rfl (by kernel_rfl) (by kernel_rfl) (by kernel_rfl) rfl (H) (fun w H => Ev.fieldAddr (fld_run rfl) rfl) ?_
  refine OPH.takeY 4 rfl rfl rfl rfl rfl rfl (by kernel_rfl) (by kernel_rfl) (by kernel_rfl) rfl (H) (fun w H => Ev.load1 (agg_run rfl) rfl (H.ldL 1 rfl _ rfl)) ?_
  refine OPH.takeY 5 rfl rfl rfl rfl rfl rfl (by kernel_rfl) (by kernel_rfl) (by kernel_rfl) rfl (H) (fun w H => Ev.len (el_run rfl) rfl) ?_
  refine OPH.takeY 6 rfl rfl rfl rfl rfl rfl (by kernel_rfl) (by kernel_rfl) (by kernel_rfl) rfl (H) (fun w H => Ev.eql rfl rfl) ?_
  refine Y.t 7 H rfl rfl (fun w H => Ev.pick (b := true) rfl) <| Y.t 8 H rfl rfl (fun w H => Ev.mvB rfl) <| OPH.takeY 9 rfl rfl rfl rfl rfl rfl (by kernel_rfl) (by kernel_rfl) (by kernel_rfl) rfl (H) (fun w H => Ev.fieldAddr (fld_run rfl) rfl) ?_
  refine OPH.takeY 10 rfl rfl rfl rfl rfl rfl (by kernel_rfl) (by kernel_rfl) (by kernel_rfl) rfl (H) (fun w H => Ev.load1 (agg_run rfl) rfl (H.ldL 1 rfl _ rfl)) ?_
  refine OPH.takeY 11 rfl rfl rfl rfl rfl rfl (by kernel_rfl) (by kernel_rfl) (by kernel_rfl) rfl (H) (fun w H => Ev.len (el_run rfl) rfl) ?_
  refine OPH.takeY 12 rfl rfl rfl rfl rfl rfl (by kernel_rfl) (by kernel_rfl) (by kernel_rfl) rfl (H) (fun w H => Ev.eql rfl rfl) ?_
  refine Y.t 13 H rfl rfl (fun w H => Ev.pick (b := true) rfl) <| Y.t 14 H rfl rfl (fun w H => Ev.mvB rfl) <| OPH.takeY 15 rfl rfl rfl rfl rfl rfl (by kernel_rfl) (by kernel_rfl) (by kernel_rfl) rfl (H) (fun w H => Ev.mvI rfl) ?_
  refine OPH.takeY 16 rfl rfl rfl rfl rfl rfl (by kernel_rfl) (by kernel_rfl) (by kernel_rfl) rfl (H) (fun w H => Ev.eql rfl rfl) ?_
  refine Y.t 17 H rfl rfl (fun w H => Ev.pick (b := true) rfl) <| Y.t 18 H rfl rfl (fun w H => Ev.mvB rfl) <| OPH.takeY 19 rfl rfl rfl rfl rfl rfl (by kernel_rfl) (by kernel_rfl) (by kernel_rfl) rfl (H) (fun w H => Ev.fieldAddr (fld_run rfl) rfl) ?_
  refine OPH.takeY 20 rfl rfl rfl rfl rfl rfl (by kernel_rfl) (by kernel_rfl) (by kernel_rfl) rfl (H) (fun w H => Ev.load1 (agg_run rfl) rfl (H.ldL 0 rfl _ rfl)) ?_
  refine OPH.takeY 21 rfl rfl rfl rfl rfl rfl (by kernel_rfl) (by kernel_rfl) (by kernel_rfl) rfl (H) (fun w H => Ev.eql rfl rfl) ?_
  refine Y.t 22 H rfl rfl (fun w H => Ev.pick (b := true) rfl) <| Y.t 23 H rfl rfl (fun w H => Ev.mvB rfl) <| OPH.takeY 24 rfl rfl rfl rfl rfl rfl (by kernel_rfl) (by kernel_rfl) (by kernel_rfl) rfl (H) (fun w H => Ev.fieldAddr (fld_run rfl) rfl) ?_
  refine OPH.takeY 25 rfl rfl rfl rfl rfl rfl (by kernel_rfl) (by kernel_rfl) (by kernel_rfl) rfl (H) (fun w H => Ev.load1 (agg_run rfl) rfl (H.ldL 0 rfl _ rfl)) ?_
  refine OPH.takeY 26 rfl rfl rfl rfl rfl rfl (by kernel_rfl) (by kernel_rfl) (by kernel_rfl) rfl (H) (fun w H => Ev.eql rfl rfl) ?_
  refine Y.t 27 H rfl rfl (fun w H => Ev.pick (b := true) rfl) <| Y.t 28 H rfl rfl (fun w H => Ev.mvB rfl) <| OPH.takeY 30 rfl rfl rfl rfl rfl rfl (by kernel_rfl) (by kernel_rfl) (by kernel_rfl) rfl (H) (fun w H => (Ev.loadO 0 H rfl (agg_run rfl) (size_run rfl) rfl rfl)) ?_
  refine Y.A1 29 rfl rfl <| OPS.gyes rfl rfl rfl rfl <| OPS.call (d := some 52) rfl rfl rfl (EvC.func (fun_run rfl)) (topNight _) ?_
  rintro _ w ⟨A3, B3, C3, cb3, L5, rfl, hN3, Hc⟩
  refine ⟨_, rfl, ?_⟩
  have E := (SH.call (L1 := _) (Lv := []) (by rw [List.append_nil]; exact H) Hc).perm List.perm_append_comm
  clear Hc H
  have H := E.drop (L' := boB g3 15 5 AU us.length cu AV vs.length cv :: plB g1 P 1 cp F 0 cf :: (L2 ++ L4)) (List.sublist_append_right _ _)
  refine Y.z <| ⟨(H), ?_⟩
  refine Y.A1 31 rfl rfl <| OPS.gyes rfl rfl rfl rfl <| OPS.call (d := some 54) rfl rfl rfl (EvC.func (fun_run rfl)) (pProvedC A3 B3 C3 cb3 w AU AV cu cv (hN3.at E (List.sublist_append_left _ _)) hF (hR4.at H Sb.out).1 (hR4.at H Sb.out).2) ?_
  rintro _ w ⟨rfl, hb⟩
  refine ⟨_, rfl, ?_⟩
  replace H := H.toBelow hb
  clear hb E
  refine Y.z <| ⟨(H), ?_⟩
  refine Y.t 32 H rfl rfl (fun w H => Ev.pick (b := true) rfl) <| Y.t 33 H rfl rfl (fun w H => Ev.mvB rfl) <| OPH.takeY 34 rfl rfl rfl rfl rfl rfl (by kernel_rfl) (by kernel_rfl) (by kernel_rfl) rfl (H) (fun w H => Ev.mvI rfl) ?_
  refine OPH.takeY 35 rfl rfl rfl rfl rfl rfl (by kernel_rfl) (by kernel_rfl) (by kernel_rfl) rfl (H) (fun w H => Ev.eql rfl rfl) ?_
  refine Y.t 36 H rfl rfl (fun w H => Ev.pick (b := true) rfl) <| Y.t 37 H rfl rfl (fun w H => Ev.mvB rfl) <| OPH.takeY 38 rfl rfl rfl rfl rfl rfl (by kernel_rfl) (by kernel_rfl) (by kernel_rfl) rfl (H) (fun w H => Ev.mvI rfl) ?_
  refine OPH.takeY 39 rfl rfl rfl rfl rfl rfl (by kernel_rfl) (by kernel_rfl) (by kernel_rfl) rfl (H) (fun w H => Ev.eql rfl rfl) ?_
  refine Y.t 40 H rfl rfl (fun w H => Ev.pick (b := true) rfl) <| Y.t 41 H rfl rfl (fun w H => Ev.asB rfl) <| Y.dn ?_
  exact ⟨Y.ag, rfl, H⟩
 clear H
 rintro u w ⟨h0, H⟩
 refine WP.know (t := 0) h0 ?_
 refine WP.ret ⟨_, rfl, ?_⟩
 exact ⟨rfl, H.below⟩
end Go.Proofs.YthobaaefdehoiaaGreat

/-
 Walk: the law TopPlans.
-/
set_option linter.all false
namespace Go.Proofs.YthobaaefdehoiaaGreat
open Go Go.W Go.RowKit
theorem RtsAt0.quick {w : World} {A : Option Addr} {rs : List Rt} {nl tl ll fl : Nat} (h : RtsAt0 w A rs) (hs : quickB nl tl ll fl rs = true) : RtsAt w A rs ∧ nl ≤ 5 ∧ tl ≤ 3 ∧ fl ≤ 8 := by
 unfold quickB at hs
 simp only [Bool.and_eq_true, decide_eq_true_eq] at hs
 obtain ⟨h1, h2, h3, h4, h5, h6⟩ := hs
 exact ⟨⟨h.rows, h.ints, h.cap, fun r hr => by have := h6 r hr; omega, by omega⟩, h1, h2, h5⟩
open Classical in
set_option maxHeartbeats 8000000 in
theorem topPlans (n hd : Int) (A B C : Option Addr) (l : List Edg) (ts : List Truck) (ns : List Need) (ca cb cc : Nat) (P2 F2 : Option Addr) (rs2 : List Rt) (left2 : List Int) (cp2 cf2 : Nat) (w0 : World) (hN : NightAt w0 A B C l ts ns cc) (hP2 : RtsAt0 w0 P2 rs2) (hF2 : IntsAt w0 F2 left2) :
  Calls Tryz.prog 3 #[.agg #[I n, .slice A l.length ca, .slice B ts.length cb, .slice C ns.length cc, I hd], .agg #[.slice P2 rs2.length cp2, .slice F2 left2.length cf2]] w0 fun e w' => e = .returned (.bool true) ∧ Below w0.heap.size w0 w' := by
 have H := SH.refl w0
 refine Calls.ofWP Tryz.func3 rfl Tryz.results3 Tryz.ntmps3 rfl <| Y.qr <| Y.bx (cA rfl) H ?_
 clear H; intro g2 w H
 refine Y.bx (cA rfl) H ?_
 clear H; intro g3 w H
 refine Y.v (Ev.asB rfl) <| Y.z <| Y.q <| Y.qr <| Y.v (Y.o H 1 rfl rfl) <| Y.v (Y.o H 0 rfl rfl) <| OPS.call (d := some 15) rfl rfl rfl (EvC.func (fun_run rfl)) (topQuick n hd A B C P2 F2 l.length ts.length ns.length left2.length ca cb cc rs2 cp2 cf2 w (hP2.rows.sh H)) ?_
 rintro _ w ⟨rfl, hb⟩
 refine ⟨_, rfl, ?_⟩
 replace H := H.toBelow hb; clear hb
 refine Y.v (Ev.not rfl) <| Y.z ?_
 refine WP.cond rfl (fun hc1 => ?_) (fun hc1 => ?_)
 ·refine Y.qr <| OPS.call (d := some 17) rfl rfl rfl (EvC.func (fun_run rfl)) (topPlanAwake _) ?_
  rintro _ w ⟨rfl, hb⟩
  refine ⟨_, rfl, ?_⟩
  replace H := H.toBelow hb; clear hb
  refine Y.v (Ev.asB rfl) <| Y.z ?_
  refine WP.ret ⟨_, rfl, ?_⟩
  exact ⟨rfl, H.below⟩
 have hg : quickB ns.length ts.length l.length left2.length rs2 = true := by simpa using hc1
 obtain ⟨hS2, hnl, htl, hl2⟩ := hP2.quick hg
 refine Y.k <| Y.qr <| Y.v (Y.o H 1 rfl rfl) <| OPS.call (d := some 20) rfl rfl rfl (EvC.func (fun_run rfl)) (rebMake n hd A B C l ts ns ca cb cc w (hN.sh H)) ?_
 rintro _ w ⟨er, rs, left, P, F, cp, cf, L, rfl, hA, hcf, hR, Hc⟩
 refine ⟨_, rfl, ?_⟩
 replace H := SH.call (L1 := _) (Lv := []) (by rw [List.append_nil]; exact H) Hc
 clear Hc
 simp only [List.cons_append, List.nil_append] at H
 refine Y.v (Ev.mvT rfl) <| Y.v (Ev.extract rfl rfl) <| Y.v (Ev.extract rfl rfl) <| Y.al H rfl rfl ?_
 clear H; intro g5 w H
 refine Y.ss 0 H rfl (cA rfl) rfl ?_
 clear H; intro w H
 refine Y.b rfl <| Y.z <| Y.q <| Y.qr <| Y.a rfl <| Y.v (Ev.neq rfl rfl) <| Y.z ?_
 refine WP.cond rfl (fun hc4 => ?_) (fun hc4 => ?_)
 ·have he : er ≠ 0 := by simpa using hc4
  refine Y.qr <| Y.v (Y.o H 2 rfl rfl) <| OPS.call (d := some 26) rfl rfl rfl (EvC.func (fun_run rfl)) (truckCheck n hd A B C l ts ns ca cb cc w (hN.sh H).l (hN.sh H).t (hN.sh H).n hN.c) ?_
  rintro _ w ⟨rfl, hb⟩
  refine ⟨_, rfl, ?_⟩
  replace H := H.toBelow hb; clear hb
  refine Y.a rfl <| Y.v (Ev.eql rfl rfl) <| Y.v (Ev.mvB rfl) <| OPS.gcall0 (f := 5) (topPlanAwake _) (fun _ _ h => h) rfl rfl rfl rfl rfl (fun hg => (EvC.func (fun_run rfl))) ?_
  intro w hbc; replace H := H.toBelow hbc
  refine Y.v (Ev.pickAnd rfl rfl rfl) <| Y.v (Ev.asB rfl) <| Y.z ?_
  refine WP.ret ⟨_, rfl, ?_⟩
  exact ⟨ret_b rfl (by simp [hA.err]), H.below⟩
 have he : er = 0 := by simpa using hc4
 subst he
 obtain ⟨m, rfl, hM⟩ := hA.good rfl
 have hE : nightErr m l ts ns hd = 0 := hA.err.symm
 have hpl := make_plan hE hM
 obtain ⟨hnd, hin, hll⟩ := hM.facts
 refine Y.k <| Y.qr <| Y.v (Y.o H 2 rfl rfl) <| OPS.call (d := some 34) rfl rfl rfl (EvC.func (fun_run rfl)) (boundFind m hd A B C l ts ns ca cb cc w (hN.sh H)) ?_
 rintro _ w ⟨s, b, us, vs, AU, AV, cu, cv, L2, rfl, hFr, hrd, Hc⟩
 refine ⟨_, rfl, ?_⟩
 replace H := SH.call (L1 := _) (Lv := []) (by rw [List.append_nil]; exact H) Hc
 clear Hc
 have hsl := hFr.short
 unfold bndL at H
 simp only [List.cons_append, List.nil_append] at H
 refine Y.v (Ev.mvT rfl) <| Y.v (Ev.extract rfl rfl) <| Y.v (Ev.extract rfl rfl) <| Y.al H rfl rfl ?_
 clear H; intro g7 w H
 refine Y.ss 0 H rfl (cA rfl) rfl ?_
 clear H; intro w H
 refine Y.b rfl <| Y.z <| Y.q <| Y.qr <| Y.v (Y.o H 3 rfl rfl) <| Y.v (Y.o H 1 rfl rfl) <| OPS.call (d := some 39) rfl rfl rfl (EvC.func (fun_run rfl)) (truckFeasible m hd A B C P F l ts ns rs left ca cb cc cp cf w (hN.sh H).l (hN.sh H).t (hN.sh H).n hN.c (hR.at H Sb.out).1 (hR.at H Sb.out).2 (by omega) (by omega)) ?_
 rintro _ w ⟨rfl, hb⟩
 refine ⟨_, rfl, ?_⟩
 replace H := H.toBelow hb; clear hb
 refine Y.v (Ev.neq rfl rfl) <| Y.v (Ev.mvB rfl) <| Y.g rfl rfl (fun hg => Y.m rfl) <| Y.g rfl rfl (fun hg => Ev.eql (gvE hg rfl) rfl) <| Y.g rfl rfl (fun hg => Ev.mvB (gvE hg rfl)) <| OPS.gvalN rfl rfl (GB.g rfl) rfl rfl (fun hg => (Ev.loadO 3 H rfl (agg_run rfl) (size_run rfl) rfl rfl)) <| OPS.gvalN rfl rfl (GB.g rfl) rfl rfl (fun hg => (Ev.loadO 0 H rfl (agg_run rfl) (size_run rfl) rfl rfl)) ?_
 have hpv := boundProvedD m hd s b A B C AU AV l ts ns us vs ca cb cc cu cv w (hN.sh H) (hrd.at H Sb.out).1 (hrd.at H Sb.out).2 hsl.1 hsl.2
 refine OPS.gcallN (α := Unit) (f := 10) (args := [.agg #[I m, .slice A l.length ca, .slice B ts.length cb, .slice C ns.length cc, I hd], .agg (bndL s b AU us.length cu AV vs.length cv).toArray]) (fun _ => .bool (decide (ProvedP m l ts ns hd s b us vs))) (fun _ _ => True) (fun hg => hpv.mono fun e w' ⟨he, hb⟩ => ⟨(), he, trivial, hb⟩) rfl rfl (GB.g rfl) rfl rfl (fun hg => EvC.conv (EvC.func (fun_run rfl)) (l2 (gvE hg rfl) (gvE hg rfl))) ?_
 intro _ w _ Hc
 clear hpv
 replace H := H.toBelow Hc
 clear Hc
 refine OPS.gvalN rfl rfl (GB.g rfl) rfl rfl (fun hg => Ev.not (gvE hg rfl)) <| Y.g rfl rfl (fun hg => Ev.pickAnd2 (beqT hg) (gvE hg rfl) rfl rfl) <| Y.v (Ev.pickOr rfl rfl rfl) <| Y.v (Ev.mvB rfl) <| Y.g rfl rfl (fun hg => Y.m rfl) <| Y.g rfl rfl (fun hg => Ev.neq (gvE hg rfl) rfl) <| Y.g rfl rfl (fun hg => Ev.mvB (gvE hg rfl)) <| OPS.gvalN rfl rfl (GB.g rfl) rfl rfl (fun hg => Ev.fieldAddr (fld_run rfl) rfl) <| OPS.gvalN rfl rfl (GB.g rfl) rfl rfl (fun hg => Ev.load1 (agg_run rfl) (gvE hg rfl) (H.ldL 1 rfl _ rfl)) <| OPS.gvalN rfl rfl (GB.g rfl) rfl rfl (fun hg => Ev.len (el_run rfl) (gvE hg rfl)) <| OPS.gvalN rfl rfl (GB.g rfl) rfl rfl (fun hg => Ev.eql (gvE hg rfl) rfl) <| Y.g rfl rfl (fun hg => Ev.pickAnd2 (beqT hg) (gvE hg rfl) rfl rfl) <| Y.g rfl rfl (fun hg => Ev.mvB (gvE hg rfl)) <| OPS.gvalN rfl rfl (GB.g rfl) rfl rfl (fun hg => Ev.fieldAddr (fld_run rfl) rfl) <| OPS.gvalN rfl rfl (GB.g rfl) rfl rfl (fun hg => Ev.load1 (agg_run rfl) (gvE hg rfl) (H.ldL 3 rfl _ rfl)) <| OPS.gvalN rfl rfl (GB.g rfl) rfl rfl (fun hg => Ev.len (el_run rfl) (gvE hg rfl)) <| OPS.gvalN rfl rfl (GB.g rfl) rfl rfl (fun hg => Ev.gtr (gvE hg rfl) rfl) <| Y.g rfl rfl (fun hg => Ev.pickAnd2 (beqT hg) (gvE hg rfl) rfl rfl) <| Y.v (Ev.pickOr rfl rfl rfl) <| Y.z ?_
 refine WP.cond rfl (fun hc7 => ?_) (fun hc7 => ?_)
 ·refine Y.qr <| Y.v (Ev.asB rfl) <| Y.z ?_
  refine WP.ret ⟨_, rfl, ?_⟩
  exfalso
  by_cases he : findErr m l ts ns hd = 0
  ·have hp := hFr.proved he
   simp [he, hp, hpl] at hc7
  ·simp [he, hpl] at hc7
   obtain ⟨h1, h2⟩ := hc7
   have hl0 : left = [] := by exact h1
   rw [hl0] at hpl
   exact he (complete_ok (planOk_of hpl) (by omega))
 refine Y.k <| Y.qr <| Y.v (Y.o H 1 rfl rfl) <| Y.v (Y.o H 2 rfl rfl) <| OPS.buildSlice rfl rfl rfl rfl (bsl_45_2_0_1 rfl rfl) H ?_
 clear H; intro g69 w H
 refine Y.v (Ev.asS rfl) <| Y.z <| Y.q <| Y.qr <| Y.b rfl <| Y.z <| WP.block <| WP.loop [4, 10, 11, 12, 70, 71, 72, 73, 74, 75, 76, 77, 78, 79, 80, 81, 82, 83, 84, 85, 86, 87, 88, 89, 90, 91, 92, 93, 94, 95, 96, 97, 98, 99, 100, 101, 102, 103, 104, 105, 106, 107, 108, 109, 110, 111, 112] (fun k e w' => ∃ (j : Nat), j + k = 2 ∧ e 10 = I j ∧ SH w0 [] w' (⟨g69, 32, [.slice P rs.length cp, .slice F left.length cf, .slice P2 rs2.length cp2, .slice F2 left2.length cf2]⟩ :: boB g7 s b AU us.length cu AV vs.length cv :: plB g5 P rs.length cp F left.length cf :: plB g3 P2 rs2.length cp2 F2 left2.length cf2 :: ⟨g2, 28, [I m, .slice A l.length ca, .slice B ts.length cb, .slice C ns.length cc, I hd]⟩ :: (L ++ L2))) (2) (⟨0, by omega, rfl, H⟩) ?_
 clear H
 rintro k u w ⟨j, hk, h10, H⟩
 refine WP.know (t := 10) h10 <| Y.q <| Y.qr <| Y.a rfl <| Y.v (Ev.mvS rfl) <| Y.v (Y.n rfl) <| Y.v (Ev.lss rfl rfl) <| Y.z ?_
 refine WP.cond rfl (fun hc11 => ?_) (fun hc11 => ?_)
 ·have hlt : j < 2 := by simp at hc11; omega
  obtain ⟨p, f, rz, lz, cpz, cfz, hld, hat⟩ : ∃ (p f : Option Addr) (rz : List Rt) (lz : List Int) (cpz cfz : Nat), (∀ w, SH w0 [] w (⟨g69, 32, [.slice P rs.length cp, .slice F left.length cf, .slice P2 rs2.length cp2, .slice F2 left2.length cf2]⟩ :: boB g7 s b AU us.length cu AV vs.length cv :: plB g5 P rs.length cp F left.length cf :: plB g3 P2 rs2.length cp2 F2 left2.length cf2 :: ⟨g2, 28, [I m, .slice A l.length ca, .slice B ts.length cb, .slice C ns.length cc, I hd]⟩ :: (L ++ L2)) → w.cell? ⟨g69, 0 + j * 2, none⟩ = some (.slice p rz.length cpz) ∧ w.cell? ⟨g69, 0 + j * 2 + 1, none⟩ = some (.slice f lz.length cfz)) ∧ (∀ w, SH w0 [] w (⟨g69, 32, [.slice P rs.length cp, .slice F left.length cf, .slice P2 rs2.length cp2, .slice F2 left2.length cf2]⟩ :: boB g7 s b AU us.length cu AV vs.length cv :: plB g5 P rs.length cp F left.length cf :: plB g3 P2 rs2.length cp2 F2 left2.length cf2 :: ⟨g2, 28, [I m, .slice A l.length ca, .slice B ts.length cb, .slice C ns.length cc, I hd]⟩ :: (L ++ L2)) → RtsAt w p rz ∧ IntsAt w f lz ∧ lz.length ≤ 1000) := by
   rcases (show j = 0 ∨ j = 1 by omega) with rfl | rfl
   ·exact ⟨P, F, rs, left, cp, cf, fun w H => ⟨H.ldL 0 rfl 0 rfl, H.ldL 0 rfl 1 rfl⟩, fun w H => ⟨(hR.at H Sb.out).1, (hR.at H Sb.out).2, by omega⟩⟩
   ·exact ⟨P2, F2, rs2, left2, cp2, cf2, fun w H => ⟨H.ldL 0 rfl 2 rfl, H.ldL 0 rfl 3 rfl⟩, fun w H => ⟨hS2.sh H, hF2.sh H, by omega⟩⟩
  refine Y.k <| Y.q <| WP.block <| Y.q <| Y.q <| WP.rquiet mixed (by kernel_rfl) H ?_
  clear H; intro w hbw13 H
  refine Y.v (Y.o H 4 rfl rfl) <| Y.v (Ev.mvS rfl) <| Y.a rfl <| Y.v (Y.X rfl rfl rfl rfl rfl) <| Y.v (Ev.loadN [.slice p rz.length cpz, .slice f lz.length cfz] (agg_run rfl) (size_run rfl) rfl ⟨(hld w H).1, (hld w H).2, trivial⟩) <| OPS.callq rfl rfl rfl (EvC.func (fun_run rfl)) (fun w2 hb2 => truckFeasible m hd A B C p f l ts ns rz lz ca cb cc cpz cfz w2 (hN.sh (H.toBelow hb2)).l (hN.sh (H.toBelow hb2)).t (hN.sh (H.toBelow hb2)).n hN.c (hat w2 (H.toBelow hb2)).1 (hat w2 (H.toBelow hb2)).2.1 (hat w2 (H.toBelow hb2)).2.2 (by omega)) ?_
  refine Y.v (Ev.neq rfl rfl) <| Y.v (Ev.mvB rfl) <| Y.g rfl rfl (fun hg => Ev.mvS rfl) <| Y.g rfl rfl (fun hg => Y.m rfl) <| Y.g rfl rfl (fun hg => Ev.indexAddr (el_run rfl) (size_run rfl) (gvE hg rfl) (gvE hg rfl) rfl (by omega)) <| Y.g rfl rfl (fun hg => Ev.fieldAddr (fld_run rfl) (gvE hg rfl)) <| Y.g rfl rfl (fun hg => Ev.load1 (agg_run rfl) (gvE hg rfl) (hld w H).2) <| Y.g rfl rfl (fun hg => Ev.len (el_run rfl) (gvE hg rfl)) <| Y.g rfl rfl (fun hg => Ev.gtr (gvE hg rfl) rfl) <| Y.v (Ev.pickOr rfl rfl rfl) <| OPS.nilq H ?_
  clear H; intro w hbx13 H
  refine WP.cond rfl (fun hc13 => ?_) (fun hc13 => ?_)
  ·refine WP.exit <| XB.hit <| Y.r <| Y.a rfl <| Y.v (Y.p rfl rfl) <| Y.b rfl <| Y.z ?_
   exact ⟨Y.ag, k - 1, by omega, j + 1, by omega, rfl, H⟩
  have hz : planErr m l ts ns hd rz lz = 0 ∧ lz = [] := by
   simp at hc13
   refine ⟨hc13.1, ?_⟩
   have := hc13.2
   exact this
  have hzd : findErr m l ts ns hd = 0 → ¬ drvL m l ts ns hd rz < s := fun h => by
   have h2 := planOk_of hz.1
   rw [hz.2] at h2
   have := sound_le h2 (hFr.proved h)
   omega
  refine Y.k <| Y.q <| WP.rquiet mixed (by kernel_rfl) H ?_
  clear H; intro w hbw14 H
  refine Y.v (Y.o H 4 rfl rfl) <| Y.v (Ev.mvS rfl) <| Y.a rfl <| Y.v (Y.X rfl rfl rfl rfl rfl) <| Y.v (Ev.loadN [.slice p rz.length cpz, .slice f lz.length cfz] (agg_run rfl) (size_run rfl) rfl ⟨(hld w H).1, (hld w H).2, trivial⟩) <| OPS.callq rfl rfl rfl (EvC.func (fun_run rfl)) (fun w2 hb2 => topDriving m hd A B C p f l ts ns rz lz ca cb cc cpz cfz w2 (hN.sh (H.toBelow hb2)) (hat w2 (H.toBelow hb2)).1 hz.1) ?_
  refine Y.v (Ev.mvT rfl) <| Y.v (Ev.extract rfl rfl) <| Y.v (Ev.extract rfl rfl) <| Y.b rfl <| Y.v (Ev.asB rfl) <| OPS.nilq H ?_
  clear H; intro w hbx14 H
  refine Y.qr <| Y.v (Ev.mvB rfl) <| Y.v (Ev.not rfl) <| Y.v (Ev.mvB rfl) <| Y.g rfl rfl (fun hg => Y.m rfl) <| Y.g rfl rfl (fun hg => Ev.eql (gvE hg rfl) rfl) <| Y.g rfl rfl (fun hg => Ev.mvB (gvE hg rfl)) <| OPS.gvalN rfl rfl (GB.g rfl) rfl rfl (fun hg => Ev.mvI rfl) <| OPS.gvalN rfl rfl (GB.g rfl) rfl rfl (fun hg => Ev.fieldAddr (fld_run rfl) rfl) <| OPS.gvalN rfl rfl (GB.g rfl) rfl rfl (fun hg => Ev.load1 (agg_run rfl) (gvE hg rfl) (H.ldL 1 rfl _ rfl)) <| OPS.gvalN rfl rfl (GB.g rfl) rfl rfl (fun hg => Ev.lss (gvE hg rfl) (gvE hg rfl)) <| Y.g rfl rfl (fun hg => Ev.pickAnd2 (beqT hg) (gvE hg rfl) rfl rfl) <| Y.v (Ev.pickOr rfl rfl rfl) <| Y.z ?_
  refine WP.cond rfl (fun hc15 => ?_) (fun hc15 => ?_)
  ·refine Y.qr <| Y.v (Ev.asB rfl) <| Y.z ?_
   refine WP.ret ⟨_, rfl, ?_⟩
   exfalso
   by_cases he : findErr m l ts ns hd = 0
   ·simp [he, hzd he] at hc15
   ·simp [he] at hc15
  refine Y.k <| Y.r <| Y.a rfl <| Y.v (Y.p rfl rfl) <| Y.b rfl <| Y.z ?_
  exact ⟨Y.ag, k - 1, by omega, j + 1, by omega, rfl, H⟩
 refine WP.exit <| XB.hit <| Y.qr <| Y.fa rfl rfl <| Y.j H 4 rfl rfl rfl <| Y.v (Y.n rfl) <| Y.v (Ev.neq rfl rfl) <| Y.v (Ev.mvB rfl) <| Y.g rfl rfl (fun hg => Y.o H 4 rfl rfl) <| Y.g rfl rfl (fun hg => Y.o H 3 rfl rfl) <| Y.g rfl rfl (fun hg => Y.o H 2 rfl rfl) <| OPS.gcall0 (f := 12) (rebBetter m hd A B C P2 F2 P F l ts ns rs2 rs left2 left ca cb cc cp2 cf2 cp cf w (hN.sh H) (hS2.sh H) (hF2.sh H) (by omega) (hR.at H Sb.out).1 (hR.at H Sb.out).2 (by omega) (by omega)) (fun _ _ h => h) rfl rfl rfl rfl rfl (fun hg => EvC.conv (EvC.func (fun_run rfl)) (l3 (gvE hg rfl) (gvE hg rfl) (gvE hg rfl))) ?_
 intro w hbc; replace H := H.toBelow hbc
 refine Y.g rfl rfl (fun hg => Ev.not (gvE hg rfl)) <| Y.v (Ev.pickOr rfl rfl rfl) <| Y.v (Ev.mvB rfl) <| OPS.gcall0 (f := 5) (topPlanAwake _) (fun _ _ h => h) rfl rfl rfl rfl rfl (fun hg => (EvC.func (fun_run rfl))) ?_
 intro w hbc; replace H := H.toBelow hbc
 refine Y.v (Ev.pickAnd rfl rfl rfl) <| Y.v (Ev.asB rfl) <| Y.z ?_
 refine WP.ret ⟨_, rfl, ?_⟩
 refine ⟨ret_b rfl ?_, H.below⟩
 by_cases h1 : ts.length = 1
 ·have hb := make_best (rs2 := rs2) (left2 := left2) hE hM h1 (by omega)
  simp [hb]
 ·have : ¬ (ts.length : Int) = 1 := by omega
  simp [this]
end Go.Proofs.YthobaaefdehoiaaGreat
