/-
 Walk: Value of the reference.
-/
import Derived.Test.YtgcokllbophkkaaGreatX1
import Derived.Test.YtgcokllbophkkaaGreatT20
import Derived.Test.YtgcokllbophkkaaGreatPtr
import Derived.Test.YtgcokllbophkkaaGreatB4
import Derived.Test.YtgcokllbophkkaaGreatFT12
import Derived.Test.YtgcokllbophkkaaGreatFM3
import Derived.Test.YtgcokllbophkkaaGreatFT14
set_option linter.all false
namespace Go.Proofs.YtgcokllbophkkaaGreat
open Go Go.W Go.RowKit
set_option maxHeartbeats 2000000 in
theorem r45Value (n hd : Int) (A B C P F : Option Addr) (l : List Edg) (ts : List Truck) (ns : List Need) (rs : List Rt) (left : List Int) (ca cb cc cp cf : Nat) (w0 : World) (hN : NightAt w0 A B C l ts ns cc)
  (hP : RtsAt w0 P rs) (hF : IntsAt w0 F left) (hfl : left.length ≤ 1000) (hnl : ns.length ≤ 1000) :
  Calls Tryz.prog 16 #[.agg #[I n, .slice A l.length ca, .slice B ts.length cb, .slice C ns.length cc, I hd], .agg #[.slice P rs.length cp, .slice F left.length cf]] w0 fun e w' =>
   e = .returned (.tuple #[I (valL n l ts ns hd rs left), I (valD n l ts ns hd rs left), I (planErr n l ts ns hd rs left)]) ∧ Below w0.heap.size w0 w' := by
 have H := SH.refl w0
 have hfew := hP.few
 refine Calls.ofWP Tryz.func16 rfl Tryz.results16 Tryz.ntmps16 rfl <| Y.qr <| Y.bx (cA rfl) H ?_
 clear H; intro g2 w H
 refine Y.bx (cA rfl) H ?_
 clear H; intro g3 w H
 refine Y.b rfl <| Y.b rfl <| Y.b rfl <| Y.z <| Y.q <| Y.qr <| Y.v (Y.o H 1 rfl rfl) <| Y.v (Y.o H 0 rfl rfl) <| OPS.call (d := some 17) rfl rfl rfl (EvC.func (fun_run rfl)) (r42Feasible n hd A B C P F l ts ns rs left ca cb cc cp cf w (hN.sh H).l (hN.sh H).t (hN.sh H).n (hP.sh H) (hF.sh H) hfl hnl) ?_
 rintro _ w ⟨rfl, hb⟩
 refine ⟨_, rfl, ?_⟩
 replace H := H.toBelow hb; clear hb
 refine Y.b rfl <| Y.z <| Y.qr <| Y.a rfl <| Y.v (Ev.neq rfl rfl) <| Y.z ?_
 refine WP.cond rfl (fun hc2 => ?_) (fun hc2 => ?_)
 ·refine Y.qr <| Y.a rfl <| Y.b rfl <| Y.b rfl <| Y.b rfl <| Y.z ?_
  refine WP.ret ⟨_, rfl, ?_⟩
  have h : planErr n l ts ns hd rs left ≠ 0 := by simpa using hc2
  exact ⟨by rw [valL, valD, if_neg h, if_neg h]; rfl, H.below⟩
 have h0 : planErr n l ts ns hd rs left = 0 := by simpa using hc2
 have hK := planOk_of h0
 have hm := hK.moves
 rw [valL, valD, if_pos h0, if_pos h0, h0]
 refine Y.k <| Y.qr <| Y.b rfl <| Y.b rfl <| Y.z <| Y.q <| Y.qr <| Y.b rfl <| Y.z <| WP.block <| WP.loop [8, 10, 11, 21, 22, 23, 24, 25, 26, 27, 28, 29, 30, 31, 32, 33, 34, 35, 36, 37, 38, 39, 40, 41, 42, 43] (fun k e w' => ∃ j : Nat, j + k = left.length ∧ e 10 = I j ∧ e 8 = I (mvL ns (left.take j)) ∧ SH w0 [] w' [⟨g3, 34, [.slice P rs.length cp, .slice F left.length cf]⟩, ⟨g2, 28, [I n, .slice A l.length ca, .slice B ts.length cb, .slice C ns.length cc, I hd]⟩]) (left.length) (⟨0, by omega, rfl, rfl, H⟩) ?_
 clear H
 rintro k u w ⟨j, hk, h10, h8, H⟩
 refine WP.know (t := 10) h10 (WP.know (t := 8) h8 ?_)
 refine Y.q <| Y.qr <| Y.a rfl <| Y.fa rfl rfl <| Y.j H 0 rfl rfl rfl <| Y.v (Y.n rfl) <| Y.v (Ev.lss rfl rfl) <| Y.z ?_
 refine WP.cond rfl (fun hc6 => ?_) (fun hc6 => ?_)
 ·have hlt : j < left.length := by simpa using hc6
  obtain ⟨br, orr, rfl, hx⟩ := hF j hlt
  have hir := hK.left left[j] (List.getElem_mem hlt)
  obtain ⟨i, hi⟩ := Int.eq_ofNat_of_zero_le hir.1
  rw [hi] at hx
  have hil : i < ns.length := by omega
  obtain ⟨bn, on, rfl, hy⟩ := hN.n i hil
  have hmv := hm ns[i] (List.getElem_mem hil)
  have hbd := mvL_bd hm (left.take j)
  have htl : (left.take j).length = j := by rw [List.length_take]; omega
  have hsn := mvL_snoc ns (left.take j) left[j]
  rw [← List.take_succ_eq_append_getElem hlt, hi, needAt_eq hil] at hsn
  generalize ns[i] = x at *
  refine Y.k <| Y.q <| WP.block <| Y.q <| WP.rstill mixed (by kernel_rfl) H ?_
  clear H; intro w hbw8 H
  obtain ⟨q1, q2, _⟩ := cellsAt_sh H hy
  refine Y.fa rfl rfl <| Y.j H 1 rfl rfl rfl <| Y.fa rfl rfl <| Y.j H 0 rfl rfl rfl <| Y.a rfl <| Y.v (Y.x rfl rfl rfl rfl) <| Y.v (Y.c (H.ld0 (by assumption)) rfl) ?_
  refine Y.v (Y.X rfl rfl rfl rfl rfl) <| Y.fa rfl rfl <| Y.v (Y.c (by assumption) rfl) ?_
  refine Y.b rfl <| OPS.nil_s <| Y.r <| Y.a rfl <| Y.a rfl <| Y.a rfl <| Y.v (Ev.neg rfl (by unfold fits; omega)) <| Y.v (Ev.max rfl rfl) <| Y.v (Y.p rfl rfl) <| Y.b rfl <| Y.z <| Y.r <| Y.a rfl <| Y.v (Y.p rfl rfl) <| Y.b rfl <| Y.z ?_
  exact ⟨Y.ag, k - 1, by omega, j + 1, by omega, rfl, (by rw [hsn]; rfl), H⟩
 have hj : j = left.length := by simp at hc6; omega
 rw [hj, List.take_length]
 refine WP.exit <| XB.hit <| Y.q <| Y.qr <| Y.b rfl <| Y.z <| WP.block <| WP.loop [9, 12, 13, 14, 44, 45, 46, 47, 48, 49, 50, 51, 52, 53, 54, 55, 56, 57, 58, 59, 60, 61, 62, 63] (fun k e w' => ∃ j : Nat, j + k = rs.length ∧ e 12 = I j ∧ e 9 = I (drvL n l ts ns hd (rs.take j)) ∧ (0 ≤ drvL n l ts ns hd (rs.take j) ∧ drvL n l ts ns hd (rs.take j) ≤ 2000000 * j) ∧ SH w0 [] w' [⟨g3, 34, [.slice P rs.length cp, .slice F left.length cf]⟩, ⟨g2, 28, [I n, .slice A l.length ca, .slice B ts.length cb, .slice C ns.length cc, I hd]⟩]) (rs.length) (⟨0, by omega, rfl, rfl, by simp [drvL], H⟩) ?_
 clear H
 rintro k2 u2 w ⟨j2, hk2, h12, h9, hbd2, H⟩
 refine WP.know (t := 12) h12 (WP.know (t := 9) h9 ?_)
 refine Y.q <| Y.qr <| Y.a rfl <| Y.fa rfl rfl <| Y.j H 0 rfl rfl rfl <| Y.v (Y.n rfl) <| Y.v (Ev.lss rfl rfl) <| Y.z ?_
 refine WP.cond rfl (fun hc11 => ?_) (fun hc11 => ?_)
 ·have hlt2 : j2 < rs.length := by simpa using hc11
  obtain ⟨b, o, rfl, hc⟩ := hP.rows j2 hlt2
  have hr := hP.ints rs[j2] (List.getElem_mem hlt2)
  have hrl := hP.len rs[j2] (List.getElem_mem hlt2)
  have hrc := hP.cap rs[j2] (List.getElem_mem hlt2)
  have hE := hK.walks j2 hlt2
  have hob := outD_bd hE
  refine Y.k <| Y.q <| WP.block <| Y.q ?_
  refine WP.rheldC [13, 14, 51, 52, 53, 54, 55, 56, 57, 58, 59, 60] (fun u w' => u 13 = I (outD n l ts ns hd rs[j2].trk rs[j2].nd.l) ∧ SH w0 [] w' [⟨g3, 34, [.slice (some ⟨b, o, none⟩) rs.length cp, .slice F left.length cf]⟩, ⟨g2, 28, [I n, .slice A l.length ca, .slice B ts.length cb, .slice C ns.length cc, I hd]⟩]) mixed H ?_ ?_
  ·clear H; intro w hbw13 H
   refine Y.t 0 H rfl rfl (fun w H => Y.o H 1 rfl rfl) <| Y.t 1 H rfl rfl (fun w H => Y.f rfl rfl) <| Y.t 2 H rfl rfl (fun w H => Y.l H 0 rfl rfl rfl) <| Y.t 3 H rfl rfl (fun w H => Y.m rfl) <| Y.t 4 H rfl rfl (fun w H => Y.X rfl rfl rfl rfl rfl) <| Y.t 5 H rfl rfl (fun w H => Ev.loadN (rtCells rs[j2]) (agg_run rfl) (size_run rfl) rfl (cellsAt_sh H hc)) <| Y.A1 6 rfl rfl <| OPS.call (d := some 58) rfl rfl rfl (EvC.func (fun_run rfl)) (r42Driving n hd rs[j2].trk A B C rs[j2].nd.A l ts ns rs[j2].nd.l ca cb cc rs[j2].nd.cap _ (hN.sh H).l (hN.sh H).t (hN.sh H).n (hr.sh H) (by unfold maxLen; omega)) ?_
   rintro _ w ⟨rfl, hb⟩
   refine ⟨_, rfl, ?_⟩
   replace H := H.toBelow hb
   clear hb
   refine Y.z <| ⟨(H), ?_⟩
   refine Y.t 7 H rfl rfl (fun w H => Ev.mvT rfl) <| Y.t 8 H rfl rfl (fun w H => Ev.extract rfl rfl) <| Y.t 9 H rfl rfl (fun w H => Ev.extract rfl rfl) <| Y.t 10 H rfl rfl (fun w H => Ev.asI rfl) <| Y.t 11 H rfl rfl (fun w H => Ev.asI rfl) <| Y.dn ?_
   exact ⟨Y.ag, rfl, H⟩
  clear H
  rintro u w ⟨h13, H⟩
  refine WP.know (t := 13) h13 <| Y.r <| Y.a rfl <| Y.a rfl <| Y.v (Y.p rfl rfl) <| Y.b rfl <| Y.z <| Y.r <| Y.a rfl <| Y.v (Y.p rfl rfl) <| Y.b rfl <| Y.z ?_
  exact ⟨Y.ag, k2 - 1, by omega, j2 + 1, by omega, rfl, by rw [drvL_succ hlt2]; rfl, by rw [drvL_succ hlt2]; omega, H⟩
 have hj2 : j2 = rs.length := by simp at hc11; omega
 rw [hj2, List.take_length]
 refine WP.exit <| XB.hit <| Y.qr <| Y.a rfl <| Y.a rfl <| Y.b rfl <| Y.b rfl <| Y.b rfl <| Y.z ?_
 refine WP.ret ⟨_, rfl, ?_⟩
 exact ⟨rfl, H.below⟩
end Go.Proofs.YtgcokllbophkkaaGreat

/-
 Walks: Gap and Better of the reference.
-/
set_option linter.all false
namespace Go.Proofs.YtgcokllbophkkaaGreat
open Go Go.W Go.RowKit
set_option maxHeartbeats 2000000 in
theorem r45Better (n hd : Int) (A B C P F P2 F2 : Option Addr) (l : List Edg) (ts : List Truck) (ns : List Need) (rs rs2 : List Rt) (left left2 : List Int) (ca cb cc cp cf cp2 cf2 : Nat) (w0 : World) (hN : NightAt w0 A B C l ts ns cc)
  (hP : RtsAt w0 P rs) (hF : IntsAt w0 F left) (hfl : left.length ≤ 1000) (hP2 : RtsAt w0 P2 rs2) (hF2 : IntsAt w0 F2 left2) (hfl2 : left2.length ≤ 1000) (hnl : ns.length ≤ 1000) :
  Calls Tryz.prog 20 #[.agg #[I n, .slice A l.length ca, .slice B ts.length cb, .slice C ns.length cc, I hd], .agg #[.slice P rs.length cp, .slice F left.length cf], .agg #[.slice P2 rs2.length cp2, .slice F2 left2.length cf2]] w0 fun e w' =>
   e = .returned (.bool (betB (planErr n l ts ns hd rs left) (planErr n l ts ns hd rs2 left2) (valL n l ts ns hd rs left) (valL n l ts ns hd rs2 left2) (valD n l ts ns hd rs left) (valD n l ts ns hd rs2 left2))) ∧ Below w0.heap.size w0 w' := by
 have H := SH.refl w0
 refine Calls.ofWP Tryz.func20 rfl Tryz.results20 Tryz.ntmps20 rfl <| Y.qr <| Y.bx (cA rfl) H ?_
 clear H; intro g3 w H
 refine Y.bx (cA rfl) H ?_
 clear H; intro g4 w H
 refine Y.bx (cA rfl) H ?_
 clear H; intro g5 w H
 refine Y.v (Ev.asB rfl) <| Y.z <| Y.qr <| Y.v (Y.o H 2 rfl rfl) <| Y.v (Y.o H 1 rfl rfl) <| OPS.call (d := some 16) rfl rfl rfl (EvC.func (fun_run rfl)) (r45Value n hd A B C P F l ts ns rs left ca cb cc cp cf w (hN.sh H) (hP.sh H) (hF.sh H) hfl hnl) ?_
 rintro _ w ⟨rfl, hb⟩
 refine ⟨_, rfl, ?_⟩
 replace H := H.toBelow hb; clear hb
 refine Y.v (Ev.mvT rfl) <| Y.v (Ev.extract rfl rfl) <| Y.v (Ev.extract rfl rfl) <| Y.v (Ev.extract rfl rfl) <| Y.b rfl <| Y.b rfl <| Y.b rfl <| Y.z <| Y.qr <| Y.v (Y.o H 2 rfl rfl) <| Y.v (Y.o H 0 rfl rfl) <| OPS.call (d := some 23) rfl rfl rfl (EvC.func (fun_run rfl)) (r45Value n hd A B C P2 F2 l ts ns rs2 left2 ca cb cc cp2 cf2 w (hN.sh H) (hP2.sh H) (hF2.sh H) hfl2 hnl) ?_
 rintro _ w ⟨rfl, hb⟩
 refine ⟨_, rfl, ?_⟩
 replace H := H.toBelow hb; clear hb
 refine Y.v (Ev.mvT rfl) <| Y.v (Ev.extract rfl rfl) <| Y.v (Ev.extract rfl rfl) <| Y.v (Ev.extract rfl rfl) <| Y.b rfl <| Y.b rfl <| Y.b rfl <| Y.z <| Y.qr <| Y.a rfl <| Y.v (Ev.eql rfl rfl) <| Y.v (Ev.mvB rfl) <| Y.g rfl rfl (fun hg => Y.m rfl) <| Y.g rfl rfl (fun hg => Ev.eql (gvE hg rfl) rfl) <| Y.v (Ev.pickAnd rfl rfl rfl) <| Y.v (Ev.mvB rfl) <| Y.g rfl rfl (fun hg => Y.m rfl) <| Y.g rfl rfl (fun hg => Y.m rfl) <| Y.g rfl rfl (fun hg => Ev.lss (gvE hg rfl) (gvE hg rfl)) <| Y.g rfl rfl (fun hg => Ev.mvB (gvE hg rfl)) <| OPS.gvalN rfl rfl (GB.g rfl) rfl rfl (fun hg => Ev.mvI rfl) <| OPS.gvalN rfl rfl (GB.g rfl) rfl rfl (fun hg => Ev.mvI rfl) <| OPS.gvalN rfl rfl (GB.g rfl) rfl rfl (fun hg => Ev.eql (gvE hg rfl) (gvE hg rfl)) <| OPS.gvalN rfl rfl (GB.g rfl) rfl rfl (fun hg => Ev.mvB (gvE hg rfl)) <| OPS.gvalN rfl rfl (GB.g rfl) rfl rfl (fun hg => Ev.mvI rfl) <| OPS.gvalN rfl rfl (GB.g rfl) rfl rfl (fun hg => Ev.mvI rfl) <| OPS.gvalN rfl rfl (GB.g rfl) rfl rfl (fun hg => Ev.lss (gvE hg rfl) (gvE hg rfl)) <| OPS.gvalN rfl rfl (GB.g rfl) rfl rfl (fun hg => (Ev.pickAnd2 (beqT hg) (gvE hg rfl) rfl rfl)) <| Y.g rfl rfl (fun hg => Ev.pickOr2 (beqT hg) (gvE hg rfl) rfl rfl) <| Y.v (Ev.pickAnd rfl rfl rfl) <| Y.v (Ev.asB rfl) <| Y.z ?_
 refine WP.ret ⟨_, rfl, ?_⟩
 refine ⟨ret_b rfl ?_, H.below⟩
 unfold betB
 grind
end Go.Proofs.YtgcokllbophkkaaGreat

/-
 Walks: the laws Makes, Values, Compares, Order, Bounded.
-/
set_option linter.all false
namespace Go.Proofs.YtgcokllbophkkaaGreat
open Go Go.W Go.RowKit
theorem RtsAt0.small {w : World} {A : Option Addr} {rs : List Rt} {fl : Nat} (h : RtsAt0 w A rs) (hs : small45 rs fl = true) : RtsAt w A rs ∧ rs.length ≤ 6 ∧ fl ≤ 10 := by
 unfold small45 at hs
 simp only [Bool.and_eq_true, decide_eq_true_eq] at hs
 exact ⟨⟨h.rows, h.ints, h.cap, fun r hr => by have := hs.2.2 r hr; omega, by omega⟩, hs.1, hs.2.1⟩
theorem few45_nl {a b c : Nat} (h : few45 a b c = true) : c ≤ 9 ∧ b ≤ 4 := by
 unfold few45 at h
 simp only [Bool.and_eq_true, decide_eq_true_eq] at h
 exact ⟨h.1, h.2.1⟩
set_option maxHeartbeats 2000000 in
theorem law45Compares (n hd : Int) (A B C : Option Addr) (l : List Edg) (ts : List Truck) (ns : List Need) (ca cb cc : Nat) (P F : Option Addr) (rs : List Rt) (left : List Int) (cp cf : Nat) (P2 F2 : Option Addr) (rs2 : List Rt) (left2 : List Int) (cp2 cf2 : Nat) (w0 : World) (hN : NightAt w0 A B C l ts ns cc) (hP : RtsAt0 w0 P rs) (hF : IntsAt w0 F left) (hP2 : RtsAt0 w0 P2 rs2) (hF2 : IntsAt w0 F2 left2) :
  Calls Tryz.prog 5 #[.agg #[I n, .slice A l.length ca, .slice B ts.length cb, .slice C ns.length cc, I hd], .agg #[.slice P rs.length cp, .slice F left.length cf], .agg #[.slice P2 rs2.length cp2, .slice F2 left2.length cf2]] w0 fun e w' => e = .returned (.bool true) ∧ Below w0.heap.size w0 w' := by
 have H := SH.refl w0
 refine Calls.ofWP Tryz.func5 rfl Tryz.results5 Tryz.ntmps5 rfl <| Y.qr <| Y.bx (cA rfl) H ?_
 clear H; intro g3 w H
 refine Y.bx (cA rfl) H ?_
 clear H; intro g4 w H
 refine Y.bx (cA rfl) H ?_
 clear H; intro g5 w H
 refine Y.v (Ev.asB rfl) <| Y.z <| Y.q <| Y.qr <| Y.v (Y.o H 2 rfl rfl) <| OPS.call (d := some 8) rfl rfl rfl (EvC.func (fun_run rfl)) (law45Few n hd A B C l.length ts.length ns.length ca cb cc w) ?_
 rintro _ w ⟨rfl, hb⟩
 refine ⟨_, rfl, ?_⟩
 replace H := H.toBelow hb; clear hb
 refine Y.v (Ev.not rfl) <| Y.v (Ev.mvB rfl) <| Y.g rfl rfl (fun hg => Y.o H 1 rfl rfl) <| OPS.gcall0 (f := 14) (law45Small P F rs left.length cp cf w (hP.rows.sh H)) (fun _ _ h => h) rfl rfl rfl rfl rfl (fun hg => EvC.conv (EvC.func (fun_run rfl)) (l1 (gvE hg rfl))) ?_
 intro w hbc; replace H := H.toBelow hbc
 refine Y.g rfl rfl (fun hg => Ev.not (gvE hg rfl)) <| Y.v (Ev.pickOr rfl rfl rfl) <| Y.v (Ev.mvB rfl) <| Y.g rfl rfl (fun hg => Y.o H 0 rfl rfl) <| OPS.gcall0 (f := 14) (law45Small P2 F2 rs2 left2.length cp2 cf2 w (hP2.rows.sh H)) (fun _ _ h => h) rfl rfl rfl rfl rfl (fun hg => EvC.conv (EvC.func (fun_run rfl)) (l1 (gvE hg rfl))) ?_
 intro w hbc; replace H := H.toBelow hbc
 refine Y.g rfl rfl (fun hg => Ev.not (gvE hg rfl)) <| Y.v (Ev.pickOr rfl rfl rfl) <| Y.z ?_
 refine WP.cond rfl (fun hc1 => ?_) (fun hc1 => ?_)
 ·refine Y.qr <| OPS.call (d := some 20) rfl rfl rfl (EvC.func (fun_run rfl)) (law45Awake w) ?_
  rintro _ w ⟨rfl, hb⟩
  refine ⟨_, rfl, ?_⟩
  replace H := H.toBelow hb; clear hb
  refine Y.v (Ev.asB rfl) <| Y.z ?_
  refine WP.ret ⟨_, rfl, ?_⟩
  exact ⟨rfl, H.below⟩
 have hg : (few45 l.length ts.length ns.length = true ∧ small45 rs left.length = true) ∧ small45 rs2 left2.length = true := by simpa using hc1
 obtain ⟨hS, _, hl⟩ := hP.small hg.1.2
 obtain ⟨hS2, _, hl2⟩ := hP2.small hg.2
 have hnl : ns.length ≤ 1000 := by have := few45_nl hg.1.1; omega
 replace hl : left.length ≤ 1000 := by omega
 replace hl2 : left2.length ≤ 1000 := by omega
 refine Y.k <| Y.q <| WP.rquiet mixed (by kernel_rfl) H ?_
 clear H; intro w hbw3 H
 refine Y.v (Y.o H 2 rfl rfl) <| Y.v (Y.o H 1 rfl rfl) <| Y.v (Y.o H 0 rfl rfl) <| OPS.callq rfl rfl rfl (EvC.func (fun_run rfl)) (fun w2 hb2 => rebBetter n hd A B C P F P2 F2 l ts ns rs rs2 left left2 ca cb cc cp cf cp2 cf2 w2 (hN.sh (H.toBelow hb2)) (hS.sh (H.toBelow hb2)) (hF.sh (H.toBelow hb2)) hl (hS2.sh (H.toBelow hb2)) (hF2.sh (H.toBelow hb2)) hl2 hnl) ?_
 refine Y.v (Y.o H 2 rfl rfl) <| Y.v (Y.o H 1 rfl rfl) <| Y.v (Y.o H 0 rfl rfl) <| OPS.callq rfl rfl rfl (EvC.func (fun_run rfl)) (fun w2 hb2 => r45Better n hd A B C P F P2 F2 l ts ns rs rs2 left left2 ca cb cc cp cf cp2 cf2 w2 (hN.sh (H.toBelow hb2)) (hS.sh (H.toBelow hb2)) (hF.sh (H.toBelow hb2)) hl (hS2.sh (H.toBelow hb2)) (hF2.sh (H.toBelow hb2)) hl2 hnl) ?_
 refine Y.v (Ev.eqlB Tryz.runUnderlying4 rfl rfl) <| Y.v (Ev.mvB rfl) <| OPS.gcallq2 (f := 10) (fun hg w2 hb2 => law45Awake _) rfl rfl rfl rfl rfl (fun hg => (EvC.func (fun_run rfl))) ?_
 refine Y.v (Ev.pickAnd rfl rfl rfl) <| Y.v (Ev.asB rfl) <| OPS.nilq H ?_
 clear H; intro w hbx3 H
 refine WP.ret ⟨_, rfl, ?_⟩
 exact ⟨ret_b rfl (by simp), H.below⟩
end Go.Proofs.YtgcokllbophkkaaGreat
