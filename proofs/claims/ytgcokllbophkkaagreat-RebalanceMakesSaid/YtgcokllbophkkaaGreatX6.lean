/-
 Walks: Ints, Same; few, small; Town.
-/
import Derived.Test.YtgcokllbophkkaaGreatX2
import Derived.Test.YtgcokllbophkkaaGreatNest
import Derived.Test.YtgcokllbophkkaaGreatT18
import Derived.Test.YtgcokllbophkkaaGreatB4
import Derived.Test.YtgcokllbophkkaaGreatFM6
import Derived.Test.YtgcokllbophkkaaGreatFM2
set_option linter.all false
set_option maxHeartbeats 4000000
namespace Go.Proofs.YtgcokllbophkkaaGreat
open Go Go.W Go.RowKit
theorem r45Ints (A B : Option Addr) (a b : List Int) (ca cb : Nat) (w0 : World) (ha : IntsAt w0 A a) (hb : IntsAt w0 B b) (hal : a.length ≤ 1000) (hbl : b.length ≤ 1000) :
  Calls Tryz.prog 35 #[.slice A a.length ca, .slice B b.length cb] w0 fun e w' => e = .returned (.bool (decide (a = b))) ∧ Below w0.heap.size w0 w' := by
 have H := SH.refl w0
 refine Calls.ofWP Tryz.func35 rfl Tryz.results35 Tryz.ntmps35 rfl <| Y.qr <| Y.v (Ev.asB rfl) <| Y.z <| Y.q <| Y.qr <| Y.v (Ev.mvS rfl) <| Y.v (Y.n rfl) <| Y.v (Ev.mvS rfl) <| Y.v (Y.n rfl) <| Y.v (Ev.neq rfl rfl) <| Y.z ?_
 refine WP.cond rfl (fun hc1 => ?_) (fun hc1 => ?_)
 ·refine Y.qr <| Y.v (Ev.asB rfl) <| Y.z ?_
  refine WP.ret ⟨_, rfl, ?_⟩
  have h : a ≠ b := by
   rintro rfl
   simp at hc1
  exact ⟨by rw [decide_eq_false h]; rfl, H.below⟩
 have hlen : a.length = b.length := by
  have : (a.length : Int) = b.length := by simpa using hc1
  omega
 refine Y.k <| Y.q <| Y.qr <| Y.b rfl <| Y.z <| WP.block <| WP.loop [4, 5, 11, 12, 13, 14, 15, 16, 17, 18, 19, 20, 21, 22, 23, 24, 25] (fun k e w' => ∃ j : Nat, j + k = a.length ∧ e 5 = I j ∧ (∀ i (h : i < a.length) (h2 : i < b.length), i < j → a[i] = b[i]) ∧ SH w0 [] w' []) (a.length) (⟨0, by omega, rfl, fun i _ _ h => absurd h (by omega), H⟩) ?_
 clear H
 rintro k u w ⟨j, hk, h5, hall, H⟩
 refine WP.know (t := 5) h5 <| Y.q <| Y.qr <| Y.a rfl <| Y.v (Ev.mvS rfl) <| Y.v (Y.n rfl) <| Y.v (Ev.lss rfl rfl) <| Y.z ?_
 refine WP.cond rfl (fun hc4 => ?_) (fun hc4 => ?_)
 ·have hlt : j < a.length := by simpa using hc4
  obtain ⟨b1, o1, rfl, hx⟩ := ha j hlt
  obtain ⟨b2, o2, rfl, hy⟩ := hb j (by omega)
  refine Y.k <| Y.q <| WP.block <| Y.q <| WP.rstill mixed (by kernel_rfl) H ?_
  clear H; intro w hbw6 H
  refine Y.v (Ev.mvS rfl) <| Y.a rfl <| Y.v (Y.x rfl rfl rfl rfl) <| Y.v (Y.c (H.ld0 (by assumption)) rfl) ?_
  refine Y.v (Ev.mvS rfl) <| Y.a rfl <| Y.v (Y.x rfl rfl rfl rfl) <| Y.v (Y.c (H.ld0 (by assumption)) rfl) ?_
  refine Y.v (Ev.neq rfl rfl) <| OPS.nil_s ?_
  refine WP.cond rfl (fun hc6 => ?_) (fun hc6 => ?_)
  ·refine Y.qr <| Y.v (Ev.asB rfl) <| Y.z ?_
   refine WP.ret ⟨_, rfl, ?_⟩
   have hne : a[j] ≠ b[j]'(by omega) := by simpa using hc6
   have h : a ≠ b := by
    rintro rfl
    exact hne rfl
   exact ⟨by rw [decide_eq_false h]; rfl, H.below⟩
  have hne : a[j] = b[j]'(by omega) := by simpa using hc6
  refine Y.k <| Y.r <| Y.a rfl <| Y.v (Y.p rfl rfl) <| Y.b rfl <| Y.z ?_
  refine ⟨Y.ag, k - 1, by omega, j + 1, by omega, rfl, fun i h h2 hij => ?_, H⟩
  rcases Nat.lt_succ_iff_lt_or_eq.1 hij with h3 | rfl
  ·exact hall i h h2 h3
  ·exact hne
 refine WP.exit <| XB.hit <| Y.qr <| Y.v (Ev.asB rfl) <| Y.z ?_
 refine WP.ret ⟨_, rfl, ?_⟩
 have hj : j = a.length := by simp at hc4; omega
 have h : a = b := List.ext_getElem hlen fun i h h2 => hall i h h2 (by omega)
 exact ⟨by rw [decide_eq_true h]; rfl, H.below⟩
theorem rtL_len (rs : List Rt) : (rtL rs).length = rs.length := by simp [rtL]
theorem r45Same (P F P2 F2 : Option Addr) (rs rs2 : List Rt) (left left2 : List Int) (cp cf cp2 cf2 : Nat) (w0 : World)
  (hP : RowsAt 2 rtCells w0 P rs) (hI : ∀ r ∈ rs, IntsAt w0 r.nd.A r.nd.l) (hF : IntsAt w0 F left) (hP2 : RowsAt 2 rtCells w0 P2 rs2) (hI2 : ∀ r ∈ rs2, IntsAt w0 r.nd.A r.nd.l) (hF2 : IntsAt w0 F2 left2)
  (hl : rs.length ≤ 1000 ∧ left.length ≤ 1000 ∧ ∀ r ∈ rs, r.nd.l.length ≤ 1000) (hl2 : rs2.length ≤ 1000 ∧ left2.length ≤ 1000 ∧ ∀ r ∈ rs2, r.nd.l.length ≤ 1000) :
  Calls Tryz.prog 13 #[.agg #[.slice P rs.length cp, .slice F left.length cf], .agg #[.slice P2 rs2.length cp2, .slice F2 left2.length cf2]] w0 fun e w' => e = .returned (.bool (decide (rtL rs = rtL rs2 ∧ left = left2))) ∧ Below w0.heap.size w0 w' := by
 have H := SH.refl w0
 obtain ⟨hl1, hlf, hlr⟩ := hl
 obtain ⟨hm1, hmf, hmr⟩ := hl2
 refine Calls.ofWP Tryz.func13 rfl Tryz.results13 Tryz.ntmps13 rfl <| Y.qr <| Y.bx (cA rfl) H ?_
 clear H; intro g2 w H
 refine Y.bx (cA rfl) H ?_
 clear H; intro g3 w H
 refine Y.v (Ev.asB rfl) <| Y.z <| Y.q <| Y.qr <| Y.fa rfl rfl <| Y.j H 1 rfl rfl rfl <| Y.v (Y.n rfl) <| Y.fa rfl rfl <| Y.j H 0 rfl rfl rfl <| Y.v (Y.n rfl) <| Y.v (Ev.neq rfl rfl) <| Y.v (Ev.mvB rfl) <| Y.g rfl rfl (fun hg => Y.f rfl rfl) <| Y.y rfl rfl H 1 (fun hg => gvE hg rfl) rfl rfl <| Y.g rfl rfl (fun hg => Y.f rfl rfl) <| Y.y rfl rfl H 0 (fun hg => gvE hg rfl) rfl rfl <| OPS.gcall0 (f := 35) (r45Ints F F2 left left2 cf cf2 w (hF.sh H) (hF2.sh H) hlf hmf) (fun _ _ h => h) rfl rfl rfl rfl rfl (fun hg => EvC.conv (EvC.func (fun_run rfl)) (l2 (gvE hg rfl) (gvE hg rfl))) ?_
 intro w hbc; replace H := H.toBelow hbc
 refine Y.g rfl rfl (fun hg => Ev.not (gvE hg rfl)) <| Y.v (Ev.pickOr rfl rfl rfl) <| Y.z ?_
 refine WP.cond rfl (fun hc1 => ?_) (fun hc1 => ?_)
 ·refine Y.qr <| Y.v (Ev.asB rfl) <| Y.z ?_
  refine WP.ret ⟨_, rfl, ?_⟩
  have h : ¬ (rtL rs = rtL rs2 ∧ left = left2) := by
   rintro ⟨h1, h2⟩
   have h3 := congrArg List.length h1
   rw [rtL_len, rtL_len] at h3
   simp [h2, h3] at hc1
  exact ⟨by rw [decide_eq_false h]; rfl, H.below⟩
 have hg : rs.length = rs2.length ∧ left = left2 := by
  simp at hc1
  exact ⟨by omega, hc1.2⟩
 obtain ⟨hlen, hle⟩ := hg
 refine Y.k <| Y.q <| Y.qr <| Y.b rfl <| Y.z <| WP.block <| WP.loop [4, 5, 21, 22, 23, 24, 25, 26, 27, 28, 29, 30, 31, 32, 33, 34, 35, 36, 37, 38, 39, 40, 41, 42, 43, 44, 45, 46, 47, 48, 49, 50, 51, 52, 53, 54, 55, 56] (fun k e w' => ∃ j : Nat, j + k = rs.length ∧ e 5 = I j ∧ (∀ i (h : i < rs.length) (h2 : i < rs2.length), i < j → rs[i].trk = rs2[i].trk ∧ rs[i].nd.l = rs2[i].nd.l) ∧ SH w0 [] w' [⟨g3, 34, [.slice P2 rs2.length cp2, .slice F2 left2.length cf2]⟩, ⟨g2, 34, [.slice P rs.length cp, .slice F left.length cf]⟩]) (rs.length) (⟨0, by omega, rfl, fun i _ _ h => absurd h (by omega), H⟩) ?_
 clear H
 rintro k u w ⟨j, hk, h5, hall, H⟩
 refine WP.know (t := 5) h5 <| Y.q <| Y.qr <| Y.a rfl <| Y.fa rfl rfl <| Y.j H 1 rfl rfl rfl <| Y.v (Y.n rfl) <| Y.v (Ev.lss rfl rfl) <| Y.z ?_
 refine WP.cond rfl (fun hc4 => ?_) (fun hc4 => ?_)
 ·have hlt : j < rs.length := by simpa using hc4
  have hlt2 : j < rs2.length := by omega
  obtain ⟨b1, o1, rfl, hx⟩ := hP j hlt
  obtain ⟨b2, o2, rfl, hy⟩ := hP2 j hlt2
  have hr1 := hI rs[j] (List.getElem_mem hlt)
  have hr2 := hI2 rs2[j] (List.getElem_mem hlt2)
  have hn1 := hlr rs[j] (List.getElem_mem hlt)
  have hn2 := hmr rs2[j] (List.getElem_mem hlt2)
  obtain ⟨q1, q2, _⟩ := hx
  obtain ⟨q3, q4, _⟩ := hy
  generalize hra : rs[j] = ra at *
  generalize hrb : rs2[j] = rb at *
  refine Y.k <| Y.q <| WP.block <| Y.q <| WP.rquiet mixed (by kernel_rfl) H ?_
  clear H; intro w hbw6 H
  refine Y.fa rfl rfl <| Y.j H 1 rfl rfl rfl <| Y.a rfl <| Y.v (Y.X rfl rfl rfl rfl rfl) <| Y.fa rfl rfl <| Y.v (Y.c (H.ld0 (by assumption)) rfl) ?_
  refine Y.fa rfl rfl <| Y.j H 0 rfl rfl rfl <| Y.a rfl <| Y.v (Y.X rfl rfl rfl rfl rfl) <| Y.fa rfl rfl <| Y.v (Y.c (H.ld0 (by assumption)) rfl) ?_
  refine Y.v (Ev.neq rfl rfl) <| Y.v (Ev.mvB rfl) <| Y.g rfl rfl (fun hg => Y.f rfl rfl) <| Y.y rfl rfl H 1 (fun hg => gvE hg rfl) rfl rfl <| Y.g rfl rfl (fun hg => Y.m rfl) <| Y.g rfl rfl (fun hg => Ev.indexAddr (el_run rfl) (size_run rfl) (gvE hg rfl) (gvE hg rfl) rfl (by omega)) <| Y.g rfl rfl (fun hg => Ev.fieldAddr (fld_run rfl) (gvE hg rfl)) <| Y.g rfl rfl (fun hg => Ev.load1 (agg_run rfl) (gvE hg rfl) (H.ld0 (by assumption))) ?_
  refine Y.g rfl rfl (fun hg => Y.f rfl rfl) <| Y.y rfl rfl H 0 (fun hg => gvE hg rfl) rfl rfl <| Y.g rfl rfl (fun hg => Y.m rfl) <| Y.g rfl rfl (fun hg => Ev.indexAddr (el_run rfl) (size_run rfl) (gvE hg rfl) (gvE hg rfl) rfl (by omega)) <| Y.g rfl rfl (fun hg => Ev.fieldAddr (fld_run rfl) (gvE hg rfl)) <| Y.g rfl rfl (fun hg => Ev.load1 (agg_run rfl) (gvE hg rfl) (H.ld0 (by assumption))) ?_
  refine OPS.gcallq2 (f := 35) (fun hg w2 hb2 => r45Ints ra.nd.A rb.nd.A ra.nd.l rb.nd.l ra.nd.cap rb.nd.cap w2 ((hr1.sh H).below hb2) ((hr2.sh H).below hb2) hn1 hn2) rfl rfl rfl rfl rfl (fun hg => EvC.conv (EvC.func (fun_run rfl)) (l2 (gvE hg rfl) (gvE hg rfl))) ?_
  refine Y.g rfl rfl (fun hg => Ev.not (gvE hg rfl)) <| Y.v (Ev.pickOr rfl rfl rfl) <| OPS.nilq H ?_
  clear H; intro w hbx6 H
  refine WP.cond rfl (fun hc6 => ?_) (fun hc6 => ?_)
  ·refine Y.qr <| Y.v (Ev.asB rfl) <| Y.z ?_
   refine WP.ret ⟨_, rfl, ?_⟩
   have h : ¬ (rtL rs = rtL rs2 ∧ left = left2) := by
    rintro ⟨h1, _⟩
    have h3 : (rtL rs)[j]'(by rw [rtL_len]; exact hlt) = (rtL rs2)[j]'(by rw [rtL_len]; exact hlt2) := by simp only [h1]
    simp only [rtL, List.getElem_map, hra, hrb, Prod.mk.injEq] at h3
    simp [h3.1, h3.2] at hc6
   exact ⟨by rw [decide_eq_false h]; rfl, H.below⟩
  have hne : ra.trk = rb.trk ∧ ra.nd.l = rb.nd.l := by
   simp at hc6
   exact hc6
  refine Y.k <| Y.r <| Y.a rfl <| Y.v (Y.p rfl rfl) <| Y.b rfl <| Y.z ?_
  refine ⟨Y.ag, k - 1, by omega, j + 1, by omega, rfl, fun i h h2 hij => ?_, H⟩
  rcases Nat.lt_succ_iff_lt_or_eq.1 hij with h3 | rfl
  ·exact hall i h h2 h3
  ·rw [hra, hrb]; exact hne
 refine WP.exit <| XB.hit <| Y.qr <| Y.v (Ev.asB rfl) <| Y.z ?_
 refine WP.ret ⟨_, rfl, ?_⟩
 have hj : j = rs.length := by simp at hc4; omega
 have h : rtL rs = rtL rs2 := List.ext_getElem (by rw [rtL_len, rtL_len]; exact hlen) fun i h h2 => by
  rw [rtL_len] at h h2
  have := hall i h h2 (by omega)
  simp only [rtL, List.getElem_map]
  rw [this.1, this.2]
 have hh : rtL rs = rtL rs2 ∧ left = left2 := ⟨h, hle⟩
 exact ⟨by rw [decide_eq_true hh]; rfl, H.below⟩
def few45 (a b c : Nat) : Bool := decide (c ≤ 9) && (decide (b ≤ 4) && decide (a ≤ 60))
theorem law45Few (n hd : Int) (A B C : Option Addr) (ll tl nl ca cb cc : Nat) (w0 : World) :
  Calls Tryz.prog 9 #[.agg #[I n, .slice A ll ca, .slice B tl cb, .slice C nl cc, I hd]] w0 fun e w' => e = .returned (.bool (few45 ll tl nl)) ∧ Below w0.heap.size w0 w' := by
 have H := SH.refl w0
 refine Calls.ofWP Tryz.func9 rfl Tryz.results9 Tryz.ntmps9 rfl <| Y.qr <| Y.bx (cA rfl) H ?_
 clear H; intro g1 w H
 refine Y.v (Ev.asB rfl) <| Y.z <| Y.qr <| Y.fa rfl rfl <| Y.j H 0 rfl rfl rfl <| Y.v (Y.n rfl) <| Y.v (Ev.leq rfl rfl) <| Y.v (Ev.mvB rfl) <| Y.g rfl rfl (fun hg => Y.f rfl rfl) <| Y.y rfl rfl H 0 (fun hg => gvE hg rfl) rfl rfl <| Y.g rfl rfl (fun hg => Ev.len (el_run rfl) (gvE hg rfl)) <| Y.g rfl rfl (fun hg => Ev.leq (gvE hg rfl) rfl) <| Y.v (Ev.pickAnd rfl rfl rfl) <| Y.v (Ev.mvB rfl) <| Y.g rfl rfl (fun hg => Y.f rfl rfl) <| Y.g rfl rfl (fun hg => Ev.fieldAddr (fld_run rfl) (gvE hg rfl)) <| Y.y rfl rfl H 0 (fun hg => gvE hg rfl) rfl rfl <| Y.g rfl rfl (fun hg => Ev.len (el_run rfl) (gvE hg rfl)) <| Y.g rfl rfl (fun hg => Ev.leq (gvE hg rfl) rfl) <| Y.v (Ev.pickAnd rfl rfl rfl) <| Y.v (Ev.asB rfl) <| Y.z ?_
 refine WP.ret ⟨_, rfl, ?_⟩
 refine ⟨ret_b rfl ?_, H.below⟩
 unfold few45
 grind
def townV (c : Int) (ga gb gc : Nat) : List Value := [I 3, .slice (some ⟨ga, 0, none⟩) 6 6, .slice (some ⟨gb, 0, none⟩) 1 1, .slice (some ⟨gc, 0, none⟩) 2 2, I 10]
theorem law45Town (c : Int) (w0 : World) : Calls Tryz.prog 24 #[I c] w0 fun e w' => ∃ ga gb gc : Nat, e = .returned (.agg (townV c ga gb gc).toArray) ∧ SH w0 [] w' [⟨ga, 85, tL.flatMap edgCells⟩, ⟨gb, 81, (tT c).flatMap truckCells⟩, ⟨gc, 68, tN.flatMap needCells⟩] := by
 have H := SH.refl w0
 refine Calls.ofWPc Tryz.func24 rfl Tryz.results24 Tryz.ntmps24 rfl <| Y.qr <| Y.al H rfl rfl ?_
 clear H; intro g2 w H
 refine Y.z <| Y.qr <| Y.v (Ev.build (bld_85_0_1_2 rfl rfl rfl)) <| Y.v (Ev.build (bld_85_0_1_2 rfl rfl rfl)) <| Y.v (Ev.build (bld_85_0_1_2 rfl rfl rfl)) <| Y.v (Ev.build (bld_85_0_1_2 rfl rfl rfl)) <| Y.v (Ev.build (bld_85_0_1_2 rfl rfl rfl)) <| Y.v (Ev.build (bld_85_0_1_2 rfl rfl rfl)) <| OPS.buildSlice rfl rfl rfl rfl (bsl_22_6_0_1_2_3_4_5 rfl rfl rfl rfl rfl rfl) H ?_
 clear H; intro g10 w H
 refine Y.v (Ev.build (bld_24_0_1 rfl rfl)) <| Y.al H rfl rfl ?_
 clear H; intro g3 w H
 refine Y.ss 0 H rfl (cA rfl) rfl ?_
 clear H; intro w H
 refine Y.z <| Y.qr <| Y.v (Y.o H 0 rfl rfl) <| Y.a rfl <| Y.v (Ev.build (bld_79_1 rfl)) <| Y.v (Ev.build (bld_81_1_2 rfl rfl)) <| OPS.buildSlice rfl rfl rfl rfl (bsl_25_1_0 rfl) H ?_
 clear H; intro g16 w H
 refine Y.v (Ev.build (bld_68_0_1 rfl rfl)) <| Y.v (Ev.build (bld_68_0_1 rfl rfl)) <| OPS.buildSlice rfl rfl rfl rfl (bsl_26_2_0_1 rfl rfl) H ?_
 clear H; intro g19 w H
 refine Y.v (Ev.build (bld_28_0_1_2_3 rfl rfl rfl rfl)) <| Y.ss 4 H rfl (cA rfl) rfl ?_
 clear H; intro w H
 refine Y.z ?_
 refine WP.ret ⟨[_], ⟨(by exact resCellA 4 H rfl (agg_run rfl) (size_run rfl) (by rfl) rfl), trivial⟩, ?_⟩
 exact ⟨g10, g16, g19, rfl, H.reidx [3, 1, 0] (by decide) rfl⟩
end Go.Proofs.YtgcokllbophkkaaGreat
namespace Go.Proofs.YtgcokllbophkkaaGreat
open Go Go.W Go.RowKit
theorem townAt {w0 w : World} {S : List Nat} {c : Int} {ga gb gc : Nat} (H : SH w0 S w [⟨ga, 85, tL.flatMap edgCells⟩, ⟨gb, 81, (tT c).flatMap truckCells⟩, ⟨gc, 68, tN.flatMap needCells⟩]) : NightAt w (some ⟨ga, 0, none⟩) (some ⟨gb, 0, none⟩) (some ⟨gc, 0, none⟩) tL (tT c) tN 2 :=
 ⟨rowsOwn' (enc := edgCells) (sz := 3) (l := tL) (fun _ => rfl) H 0 rfl, rowsOwn' (enc := truckCells) (sz := 4) (l := tT c) (fun _ => rfl) H 1 rfl, rowsOwn' (enc := needCells) (sz := 2) (l := tN) (fun _ => rfl) H 2 rfl, by decide⟩
theorem townMake10 (ga gb gc : Nat) (w0 : World) (hN : NightAt w0 (some ⟨ga, 0, none⟩) (some ⟨gb, 0, none⟩) (some ⟨gc, 0, none⟩) tL (tT 10) tN 2) : Calls Tryz.prog 11 #[.agg (townV 10 ga gb gc).toArray] w0 fun e w' =>
  ∃ (r : Rt) (P F : Option Addr) (cp cf : Nat) (L : List Blk), e = .returned (.tuple #[.agg #[.slice P 1 cp, .slice F 0 cf], I 0]) ∧ (r.trk = 0 ∧ r.nd.l = [0, 1]) ∧ Reads L (fun w => RtsAt w P [r] ∧ IntsAt w F []) ∧ SH w0 [] w' L := by
 refine (rebMake 3 10 _ _ _ tL (tT 10) tN 6 1 2 w0 hN).mono ?_
 rintro e w' ⟨er, rs, left, P, F, cp, cf, L, rfl, hA, _, hR, hS⟩
 obtain ⟨rfl, h2, rfl⟩ := tMk10 hA
 obtain ⟨r, rfl, h3⟩ : ∃ r, rs = [r] ∧ r.trk = 0 ∧ r.nd.l = [0, 1] := by
  unfold rtL at h2
  cases rs with
  | nil => cases h2
  | cons r rs =>
   cases rs with
   | nil => simp at h2; exact ⟨r, rfl, h2⟩
   | cons r' rs => simp at h2
 exact ⟨r, P, F, cp, cf, L, rfl, h3, hR, hS⟩
theorem townMake7 (ga gb gc : Nat) (w0 : World) (hN : NightAt w0 (some ⟨ga, 0, none⟩) (some ⟨gb, 0, none⟩) (some ⟨gc, 0, none⟩) tL (tT 7) tN 2) : Calls Tryz.prog 11 #[.agg (townV 7 ga gb gc).toArray] w0 fun e w' =>
  ∃ (P F : Option Addr) (cp cf : Nat) (L : List Blk), e = .returned (.tuple #[.agg #[.slice P 0 cp, .slice F 2 cf], I 0]) ∧ Reads L (fun w => RtsAt w P [] ∧ IntsAt w F [0, 1]) ∧ SH w0 [] w' L := by
 refine (rebMake 3 10 _ _ _ tL (tT 7) tN 6 1 2 w0 hN).mono ?_
 rintro e w' ⟨er, rs, left, P, F, cp, cf, L, rfl, hA, _, hR, hS⟩
 obtain ⟨rfl, h2, rfl⟩ := tMk7 hA
 obtain rfl : rs = [] := by
  unfold rtL at h2
  exact List.map_eq_nil_iff.1 h2
 exact ⟨P, F, cp, cf, L, rfl, hR, hS⟩
section
variable (ga gb gc : Nat) (P F P2 F2 : Option Addr) (r : Rt) (cp cf cp2 cf2 : Nat) (w0 : World)
theorem townGap (hN : NightAt w0 (some ⟨ga, 0, none⟩) (some ⟨gb, 0, none⟩) (some ⟨gc, 0, none⟩) tL (tT 10) tN 2) (hr : r.trk = 0 ∧ r.nd.l = [0, 1]) (hP : RtsAt w0 P [r]) (hF : IntsAt w0 F []) : Calls Tryz.prog 17 #[.agg (townV 10 ga gb gc).toArray, .agg #[.slice P 1 cp, .slice F 0 cf]] w0 fun e w' =>
  e = .returned (.tuple #[I 155, I 0]) ∧ Below w0.heap.size w0 w' := by
 refine (rebGap 3 10 _ _ _ P F tL (tT 10) tN [r] [] 6 1 2 cp cf w0 hN hP hF (by decide) (by decide)).mono ?_
 rintro e w' ⟨x, rfl, hA, hb⟩
 rw [tGapV hr.1 hr.2 hA, tGap hr.1 hr.2]
 exact ⟨rfl, hb⟩
theorem townBetter (hN : NightAt w0 (some ⟨ga, 0, none⟩) (some ⟨gb, 0, none⟩) (some ⟨gc, 0, none⟩) tL (tT 10) tN 2) (hP : RtsAt w0 P [r]) (hF : IntsAt w0 F []) : Calls Tryz.prog 19 #[.agg (townV 10 ga gb gc).toArray, .agg #[.slice P 1 cp, .slice F 0 cf], .agg #[.slice P 1 cp, .slice F 0 cf]] w0 fun e w' =>
  e = .returned (.bool false) ∧ Below w0.heap.size w0 w' := by
 refine (rebBetter 3 10 _ _ _ P F P F tL (tT 10) tN [r] [r] [] [] 6 1 2 cp cf cp cf w0 hN hP hF (by decide) hP hF (by decide) (by decide)).mono ?_
 rintro e w' ⟨rfl, hb⟩
 rw [betB_irr]
 exact ⟨rfl, hb⟩
theorem townValue (hN : NightAt w0 (some ⟨ga, 0, none⟩) (some ⟨gb, 0, none⟩) (some ⟨gc, 0, none⟩) tL (tT 7) tN 2) (hP : RtsAt w0 P []) (hF : IntsAt w0 F [0, 1]) : Calls Tryz.prog 15 #[.agg (townV 7 ga gb gc).toArray, .agg #[.slice P 0 cp, .slice F 2 cf]] w0 fun e w' =>
  e = .returned (.tuple #[I 13, I 0, I 0]) ∧ Below w0.heap.size w0 w' := by
 refine (rebValue 3 10 _ _ _ P F tL (tT 7) tN [] [0, 1] 6 1 2 cp cf w0 hN hP hF (by decide) (by decide)).mono ?_
 rintro e w' ⟨rfl, hb⟩
 rw [tVal7.1, tVal7.2, tPl7]
 exact ⟨rfl, hb⟩
end
theorem law45Awake (w0 : World) : Calls Tryz.prog 10 #[] w0 fun e w' => e = .returned (.bool true) ∧ Below w0.heap.size w0 w' := by
 have H := SH.refl w0
 refine Calls.ofWP Tryz.func10 rfl Tryz.results10 Tryz.ntmps10 rfl <| Y.qr <| Y.v (Ev.asB rfl) <| Y.z <| Y.qr <| OPS.call (d := some 11) rfl rfl rfl (EvC.func (fun_run rfl)) (law45Town 10 w0) ?_
 rintro _ w ⟨ga, gb, gc, rfl, Hc⟩
 refine ⟨_, rfl, ?_⟩
 replace H := Hc
 clear Hc
 refine OPS.call (d := some 12) rfl rfl rfl (EvC.func (fun_run rfl)) (townMake10 ga gb gc w (townAt H)) ?_
 rintro _ w ⟨r, P, F, cp, cf, L1, rfl, hr, hR1, Hc⟩
 refine ⟨_, rfl, ?_⟩
 replace H := SH.call (L1 := []) (Lv := []) (H.drop (List.nil_sublist _)) Hc
 clear Hc
 simp only [List.nil_append] at H
 refine Y.v (Ev.mvT rfl) <| Y.v (Ev.extract rfl rfl) <| Y.v (Ev.extract rfl rfl) <| Y.al H rfl rfl ?_
 clear H; intro g1 w H
 refine Y.ss 0 H rfl (cA rfl) rfl ?_
 clear H; intro w H
 refine Y.b rfl <| Y.z <| Y.q ?_
 refine WP.rheldC [3, 4, 15, 16, 17, 18, 19, 20] (fun u w' => u 3 = I 155 ∧ u 4 = I 0 ∧ SH w0 [] w' (⟨g1, 34, [.slice P 1 cp, .slice F 0 cf]⟩ :: L1)) mixed H ?_ ?_
 ·clear H; intro w hbw2 H
  refine Y.t 1 H rfl rfl (fun w H => Y.o H 0 rfl rfl) <| Y.A1 0 rfl rfl <| OPS.call (d := some 16) rfl rfl rfl (EvC.func (fun_run rfl)) (law45Town 10 _) ?_
  rintro _ w ⟨ga, gb, gc, rfl, Hc⟩
  refine ⟨_, rfl, ?_⟩
  have E := (SH.call (L1 := _) (Lv := []) (by rw [List.append_nil]; exact H) Hc).perm List.perm_append_comm
  clear Hc H
  have H := E.drop (L' := ⟨g1, 34, [.slice P 1 cp, .slice F 0 cf]⟩ :: L1) (List.sublist_append_right _ _)
  refine Y.z <| ⟨(H), ?_⟩
  refine Y.A1 2 rfl rfl <| OPS.call (d := some 18) rfl rfl rfl (EvC.func (fun_run rfl)) (townGap ga gb gc P F r cp cf w (townAt (E.drop (List.sublist_append_left _ _))) hr (hR1.at H (List.sublist_cons_self _ _)).1 (hR1.at H (List.sublist_cons_self _ _)).2) ?_
  rintro _ w ⟨rfl, hb⟩
  refine ⟨_, rfl, ?_⟩
  replace H := H.toBelow hb
  clear hb E
  refine Y.z <| ⟨(H), ?_⟩
  refine Y.t 3 H rfl rfl (fun w H => Ev.mvT rfl) <| Y.t 4 H rfl rfl (fun w H => Ev.extract rfl rfl) <| Y.t 5 H rfl rfl (fun w H => Ev.extract rfl rfl) <| Y.t 6 H rfl rfl (fun w H => Ev.asI rfl) <| Y.t 7 H rfl rfl (fun w H => Ev.asI rfl) <| Y.dn ?_
  exact ⟨Y.ag, rfl, rfl, H⟩
 clear H
 rintro u w ⟨h3, h4, H⟩
 refine WP.know (t := 3) h3 (WP.know (t := 4) h4 ?_)
 refine Y.qr <| OPS.call (d := some 22) rfl rfl rfl (EvC.func (fun_run rfl)) (law45Town 7 w) ?_
 rintro _ w ⟨ga, gb, gc, rfl, Hc⟩
 refine ⟨_, rfl, ?_⟩
 replace H := (SH.call (L1 := _) (Lv := []) (by rw [List.append_nil]; exact H) Hc).perm List.perm_append_comm
 clear Hc
 refine OPS.call (d := some 23) rfl rfl rfl (EvC.func (fun_run rfl)) (townMake7 ga gb gc w (townAt (H.drop (List.sublist_append_left _ _)))) ?_
 rintro _ w ⟨P2, F2, cp2, cf2, L2, rfl, hR2, Hc⟩
 refine ⟨_, rfl, ?_⟩
 replace H := SH.call (L1 := ⟨g1, 34, [.slice P 1 cp, .slice F 0 cf]⟩ :: L1) (Lv := []) (by rw [List.append_nil]; exact H.drop (List.sublist_append_right _ _)) Hc
 clear Hc
 simp only [List.cons_append] at H
 refine Y.v (Ev.mvT rfl) <| Y.v (Ev.extract rfl rfl) <| Y.v (Ev.extract rfl rfl) <| Y.al H rfl rfl ?_
 clear H; intro g5 w H
 refine Y.ss 0 H rfl (cA rfl) rfl ?_
 clear H; intro w H
 refine Y.b rfl <| Y.z <| Y.q ?_
 refine WP.rheldC [7, 8, 9, 26, 27, 28, 29, 30, 31, 32] (fun u w' => u 7 = I 13 ∧ u 8 = I 0 ∧ u 9 = I 0 ∧ SH w0 [] w' (⟨g5, 34, [.slice P2 0 cp2, .slice F2 2 cf2]⟩ :: ⟨g1, 34, [.slice P 1 cp, .slice F 0 cf]⟩ :: (L1 ++ L2))) mixed H ?_ ?_
 ·clear H; intro w hbw4 H
  refine Y.t 1 H rfl rfl (fun w H => Y.o H 0 rfl rfl) <| Y.A1 0 rfl rfl <| OPS.call (d := some 27) rfl rfl rfl (EvC.func (fun_run rfl)) (law45Town 7 _) ?_
  rintro _ w ⟨ga, gb, gc, rfl, Hc⟩
  refine ⟨_, rfl, ?_⟩
  have E := (SH.call (L1 := _) (Lv := []) (by rw [List.append_nil]; exact H) Hc).perm List.perm_append_comm
  clear Hc H
  have H := E.drop (L' := ⟨g5, 34, [.slice P2 0 cp2, .slice F2 2 cf2]⟩ :: ⟨g1, 34, [.slice P 1 cp, .slice F 0 cf]⟩ :: (L1 ++ L2)) (List.sublist_append_right _ _)
  refine Y.z <| ⟨(H), ?_⟩
  refine Y.A1 2 rfl rfl <| OPS.call (d := some 29) rfl rfl rfl (EvC.func (fun_run rfl)) (townValue ga gb gc P2 F2 cp2 cf2 w (townAt (E.drop (List.sublist_append_left _ _))) (hR2.at H Sb.out).1 (hR2.at H Sb.out).2) ?_
  rintro _ w ⟨rfl, hb⟩
  refine ⟨_, rfl, ?_⟩
  replace H := H.toBelow hb
  clear hb E
  refine Y.z <| ⟨(H), ?_⟩
  refine Y.t 3 H rfl rfl (fun w H => Ev.mvT rfl) <| Y.t 4 H rfl rfl (fun w H => Ev.extract rfl rfl) <| Y.t 5 H rfl rfl (fun w H => Ev.extract rfl rfl) <| Y.t 6 H rfl rfl (fun w H => Ev.extract rfl rfl) <| Y.t 7 H rfl rfl (fun w H => Ev.asI rfl) <| Y.t 8 H rfl rfl (fun w H => Ev.asI rfl) <| Y.t 9 H rfl rfl (fun w H => Ev.asI rfl) <| Y.dn ?_
  exact ⟨Y.ag, rfl, rfl, rfl, H⟩
 clear H
 rintro u w ⟨h7, h8, h9, H⟩
 refine WP.know (t := 7) h7 (WP.know (t := 8) h8 (WP.know (t := 9) h9 ?_))
 refine Y.q <| Y.qr <| Y.a rfl <| Y.v (Ev.neq rfl rfl) <| Y.v (Ev.mvB rfl) <| Y.g rfl rfl (fun hg => Y.m rfl) <| Y.g rfl rfl (fun hg => Ev.neq (gvE hg rfl) rfl) <| Y.v (Ev.pickOr rfl rfl rfl) <| Y.v (Ev.mvB rfl) <| Y.g rfl rfl (fun hg => Y.m rfl) <| Y.g rfl rfl (fun hg => Ev.neq (gvE hg rfl) rfl) <| Y.v (Ev.pickOr rfl rfl rfl) <| Y.v (Ev.mvB rfl) <| Y.g rfl rfl (fun hg => Y.m rfl) <| Y.g rfl rfl (fun hg => Ev.neq (gvE hg rfl) rfl) <| Y.v (Ev.pickOr rfl rfl rfl) <| Y.z ?_
 refine WP.cond rfl (fun hc5 => ?_) (fun hc5 => ?_)
 ·refine Y.qr <| Y.v (Ev.asB rfl) <| Y.z ?_
  refine WP.ret ⟨_, rfl, ?_⟩
  exact absurd hc5 (by simp)
 refine Y.k <| Y.q ?_
 refine WP.rheldC [0, 47, 48, 49, 50, 51, 52, 53, 54, 55, 56, 57, 58, 59, 60, 61, 62, 63, 64, 65, 66, 67, 68, 69, 70, 71, 72, 73, 74, 75, 76, 77] (fun u w' => u 0 = .bool true ∧ SH w0 [] w' (⟨g5, 34, [.slice P2 0 cp2, .slice F2 2 cf2]⟩ :: ⟨g1, 34, [.slice P 1 cp, .slice F 0 cf]⟩ :: (L1 ++ L2))) mixed H ?_ ?_
 ·clear H; intro w hbw7 H
  refine Y.t 0 H rfl rfl (fun w H => Y.o H 1 rfl rfl) <| Y.A1 1 rfl rfl <| OPS.buildSlice rfl rfl rfl rfl (bsl_32_2_0_1 rfl rfl) H ?_
  clear H; intro g48 w E1
  have H := E1.drop (List.sublist_cons_self _ _)
  refine Y.z <| ⟨(H), ?_⟩
  refine Y.t 2 H rfl rfl (fun w H => Ev.build (bld_49_1 rfl)) <| Y.A1 3 rfl rfl <| OPS.buildSlice rfl rfl rfl rfl (bsl_31_1_0 rfl) E1 ?_
  clear H; intro g50 w E2; clear E1
  have H := (E2.drop (List.sublist_cons_self _ _)).drop (List.sublist_cons_self _ _)
  refine Y.z <| ⟨(H), ?_⟩
  refine Y.t 4 H rfl rfl (fun w H => Ev.build (bld_34_0 rfl)) <| Y.A1 5 rfl rfl <| OPS.call (d := some 52) rfl rfl rfl (EvC.func (fun_run rfl)) (r45Same P F (some ⟨g50, 0, none⟩) none [r] [⟨0, ⟨some ⟨g48, 0, none⟩, 2, [0, 1]⟩⟩] [] [] cp cf 1 0 w (hR1.at H Sb.out).1.rows (hR1.at H Sb.out).1.ints (hR1.at H Sb.out).2 (rowsOwn' (enc := rtCells) (sz := 2) (l := [⟨0, ⟨some ⟨g48, 0, none⟩, 2, [0, 1]⟩⟩]) rtCells_len E2 0 rfl) (fun x hx => by simp at hx; subst hx; exact onesOwn (l := [0, 1]) E2 1 rfl) OnesAt.nil (by simp [hr.2]) (by simp)) ?_
  rintro _ w ⟨rfl, hb⟩
  rw [show decide (rtL [r] = rtL [⟨0, ⟨some ⟨g48, 0, none⟩, 2, [0, 1]⟩⟩] ∧ ([] : List Int) = []) = true by simp [rtL, hr.1, hr.2]]
  refine ⟨_, rfl, ?_⟩
  replace H := H.toBelow hb
  clear hb E2
  refine Y.z <| ⟨(H), ?_⟩
  refine Y.t 6 H rfl rfl (fun w H => Ev.mvB rfl) <| OPH.takeY 7 rfl rfl rfl rfl rfl rfl (by kernel_rfl) (by kernel_rfl) (by kernel_rfl) rfl (H) (fun w H => Ev.mvI rfl) ?_
  refine OPH.takeY 8 rfl rfl rfl rfl rfl rfl (by kernel_rfl) (by kernel_rfl) (by kernel_rfl) rfl (H) (fun w H => Ev.eql rfl rfl) ?_
  refine Y.t 9 H rfl rfl (fun w H => Ev.pick (b := true) rfl) <| Y.t 10 H rfl rfl (fun w H => Ev.mvB rfl) <| OPH.takeY 11 rfl rfl rfl rfl rfl rfl (by kernel_rfl) (by kernel_rfl) (by kernel_rfl) rfl (H) (fun w H => (Ev.loadO 0 H rfl (agg_run rfl) (size_run rfl) rfl rfl)) ?_
  refine Y.A1 12 rfl rfl <| OPS.gyes rfl rfl rfl rfl <| OPS.buildSlice rfl rfl rfl rfl (bsl_32_2_0_1 rfl rfl) H ?_
  clear H; intro g59 w E1
  have H := E1.drop (List.sublist_cons_self _ _)
  refine Y.z <| ⟨(H), ?_⟩
  refine OPH.takeY 13 rfl rfl rfl rfl rfl rfl (by kernel_rfl) (by kernel_rfl) (by kernel_rfl) rfl (H) (fun w H => Ev.build (bld_34_1 rfl)) ?_
  refine Y.A1 14 rfl rfl <| OPS.gyes rfl rfl rfl rfl <| OPS.call (d := some 61) rfl rfl rfl (EvC.func (fun_run rfl)) (r45Same P2 F2 none (some ⟨g59, 0, none⟩) [] [] [0, 1] [0, 1] cp2 cf2 0 2 w (hR2.at H Sb.out).1.rows (hR2.at H Sb.out).1.ints (hR2.at H Sb.out).2 RowsAt.nil (by simp) (onesOwn (l := [0, 1]) E1 0 rfl) (by simp) (by simp)) ?_
  rintro _ w ⟨rfl, hb⟩
  rw [show decide (rtL [] = rtL [] ∧ ([0, 1] : List Int) = [0, 1]) = true by simp]
  refine ⟨_, rfl, ?_⟩
  replace H := H.toBelow hb
  clear hb E1
  refine Y.z <| ⟨(H), ?_⟩
  refine Y.t 15 H rfl rfl (fun w H => Ev.pick (b := true) rfl) <| Y.t 16 H rfl rfl (fun w H => Ev.mvB rfl) <| OPH.takeY 17 rfl rfl rfl rfl rfl rfl (by kernel_rfl) (by kernel_rfl) (by kernel_rfl) rfl (H) (fun w H => Ev.mvI rfl) ?_
  refine OPH.takeY 18 rfl rfl rfl rfl rfl rfl (by kernel_rfl) (by kernel_rfl) (by kernel_rfl) rfl (H) (fun w H => Ev.eql rfl rfl) ?_
  refine Y.t 19 H rfl rfl (fun w H => Ev.pick (b := true) rfl) <| Y.t 20 H rfl rfl (fun w H => Ev.mvB rfl) <| OPH.takeY 21 rfl rfl rfl rfl rfl rfl (by kernel_rfl) (by kernel_rfl) (by kernel_rfl) rfl (H) (fun w H => Ev.mvI rfl) ?_
  refine OPH.takeY 22 rfl rfl rfl rfl rfl rfl (by kernel_rfl) (by kernel_rfl) (by kernel_rfl) rfl (H) (fun w H => Ev.eql rfl rfl) ?_
  refine Y.t 23 H rfl rfl (fun w H => Ev.pick (b := true) rfl) <| Y.t 24 H rfl rfl (fun w H => Ev.mvB rfl) <| OPH.takeY 26 rfl rfl rfl rfl rfl rfl (by kernel_rfl) (by kernel_rfl) (by kernel_rfl) rfl (H) (fun w H => (Ev.loadO 1 H rfl (agg_run rfl) (size_run rfl) rfl rfl)) ?_
  refine OPH.takeY 27 rfl rfl rfl rfl rfl rfl (by kernel_rfl) (by kernel_rfl) (by kernel_rfl) rfl (H) (fun w H => (Ev.loadO 1 H rfl (agg_run rfl) (size_run rfl) rfl rfl)) ?_
  refine Y.A1 25 rfl rfl <| OPS.gyes rfl rfl rfl rfl <| OPS.call (d := some 72) rfl rfl rfl (EvC.func (fun_run rfl)) (law45Town 10 _) ?_
  rintro _ w ⟨ga, gb, gc, rfl, Hc⟩
  refine ⟨_, rfl, ?_⟩
  have E := (SH.call (L1 := _) (Lv := []) (by rw [List.append_nil]; exact H) Hc).perm List.perm_append_comm
  clear Hc H
  have H := E.drop (L' := ⟨g5, 34, [.slice P2 0 cp2, .slice F2 2 cf2]⟩ :: ⟨g1, 34, [.slice P 1 cp, .slice F 0 cf]⟩ :: (L1 ++ L2)) (List.sublist_append_right _ _)
  refine Y.z <| ⟨(H), ?_⟩
  refine Y.A1 28 rfl rfl <| OPS.gyes rfl rfl rfl rfl <| OPS.call (d := some 75) rfl rfl rfl (EvC.func (fun_run rfl)) (townBetter ga gb gc P F r cp cf w (townAt (E.drop (List.sublist_append_left _ _))) (hR1.at H Sb.out).1 (hR1.at H Sb.out).2) ?_
  rintro _ w ⟨rfl, hb⟩
  refine ⟨_, rfl, ?_⟩
  replace H := H.toBelow hb
  clear hb E
  refine Y.z <| ⟨(H), ?_⟩
  refine OPH.takeY 29 rfl rfl rfl rfl rfl rfl (by kernel_rfl) (by kernel_rfl) (by kernel_rfl) rfl (H) (fun w H => Ev.not rfl) ?_
  refine Y.t 30 H rfl rfl (fun w H => Ev.pick (b := true) rfl) <| Y.t 31 H rfl rfl (fun w H => Ev.asB rfl) <| Y.dn ?_
  exact ⟨Y.ag, rfl, H⟩
 clear H
 rintro u w ⟨h0, H⟩
 refine WP.know (t := 0) h0 ?_
 refine WP.ret ⟨_, rfl, ?_⟩
 exact ⟨rfl, H.below⟩
end Go.Proofs.YtgcokllbophkkaaGreat
namespace Go.Proofs.YtgcokllbophkkaaGreat
open Go Go.W Go.RowKit
theorem law45Makes (n hd : Int) (A B C : Option Addr) (l : List Edg) (ts : List Truck) (ns : List Need) (ca cb cc : Nat)  (w0 : World) (hN : NightAt w0 A B C l ts ns cc)  :
  Calls Tryz.prog 3 #[.agg #[I n, .slice A l.length ca, .slice B ts.length cb, .slice C ns.length cc, I hd]] w0 fun e w' => e = .returned (.bool true) ∧ Below w0.heap.size w0 w' := by
 have H := SH.refl w0
 refine Calls.ofWP Tryz.func3 rfl Tryz.results3 Tryz.ntmps3 rfl <| Y.qr <| Y.bx (cA rfl) H ?_
 clear H; intro g1 w H
 refine Y.v (Ev.asB rfl) <| Y.z <| Y.q <| Y.qr <| Y.v (Y.o H 0 rfl rfl) <| OPS.call (d := some 8) rfl rfl rfl (EvC.func (fun_run rfl)) (law45Few n hd A B C l.length ts.length ns.length ca cb cc w) ?_
 rintro _ w ⟨rfl, hb⟩
 refine ⟨_, rfl, ?_⟩
 replace H := H.toBelow hb; clear hb
 refine Y.v (Ev.not rfl) <| Y.z ?_
 refine WP.cond rfl (fun hc1 => ?_) (fun hc1 => ?_)
 ·refine Y.qr <| OPS.call (d := some 10) rfl rfl rfl (EvC.func (fun_run rfl)) (law45Awake w) ?_
  rintro _ w ⟨rfl, hb⟩
  refine ⟨_, rfl, ?_⟩
  replace H := H.toBelow hb; clear hb
  refine Y.v (Ev.asB rfl) <| Y.z ?_
  refine WP.ret ⟨_, rfl, ?_⟩
  exact ⟨rfl, H.below⟩
 refine Y.k <| Y.qr <| Y.v (Y.o H 0 rfl rfl) <| OPS.call (d := some 13) rfl rfl rfl (EvC.func (fun_run rfl)) (rebMake n hd A B C l ts ns ca cb cc w (hN.sh H)) ?_
 rintro _ w ⟨er, rs, left, P, F, cp, cf, L, rfl, hA, hcf, hR, Hc⟩
 refine ⟨_, rfl, ?_⟩
 replace H := SH.call (L1 := _) (Lv := []) (by rw [List.append_nil]; exact H) Hc
 clear Hc
 simp only [List.cons_append, List.nil_append] at H
 refine Y.v (Ev.mvT rfl) <| Y.v (Ev.extract rfl rfl) <| Y.v (Ev.extract rfl rfl) <| Y.al H rfl rfl ?_
 clear H; intro g3 w H
 refine Y.ss 0 H rfl (cA rfl) rfl ?_
 clear H; intro w H
 refine Y.b rfl <| Y.z <| Y.qr <| Y.v (Y.o H 1 rfl rfl) <| OPS.call (d := some 18) rfl rfl rfl (EvC.func (fun_run rfl)) (r45Make n hd A B C l ts ns ca cb cc w (hN.sh H)) ?_
 rintro _ w ⟨er2, rs2, left2, P2, F2, cp2, cf2, L2, rfl, hA2, hl2, hR2, Hc⟩
 refine ⟨_, rfl, ?_⟩
 replace H := SH.call (L1 := _) (Lv := []) (by rw [List.append_nil]; exact H) Hc
 clear Hc
 simp only [List.cons_append, List.nil_append] at H
 obtain ⟨rfl, hrr, rfl⟩ := hA.unique hA2
 have hll := hl2.2.1
 refine Y.v (Ev.mvT rfl) <| Y.v (Ev.extract rfl rfl) <| Y.v (Ev.extract rfl rfl) <| Y.al H rfl rfl ?_
 clear H; intro g5 w H
 refine Y.ss 0 H rfl (cA rfl) rfl ?_
 clear H; intro w H
 refine Y.b rfl <| Y.z <| Y.qr <| Y.v (Y.o H 1 rfl rfl) <| Y.v (Y.o H 0 rfl rfl) <| OPS.call (d := some 23) rfl rfl rfl (EvC.func (fun_run rfl)) (r45Same P F P2 F2 rs rs2 left left cp cf cp2 cf2 w (hR.at H Sb.out).1.rows (hR.at H Sb.out).1.ints (hR.at H Sb.out).2 (hR2.at H Sb.out).1 (hR2.at H Sb.out).2.1 (hR2.at H Sb.out).2.2 ⟨(hR.at H Sb.out).1.few, hll, (hR.at H Sb.out).1.len⟩ hl2) ?_
 rintro _ w ⟨rfl, hb⟩
 refine ⟨_, rfl, ?_⟩
 replace H := H.toBelow hb; clear hb
 refine Y.v (Ev.mvB rfl) <| Y.g rfl rfl (fun hg => Y.m rfl) <| Y.g rfl rfl (fun hg => Y.m rfl) <| Y.g rfl rfl (fun hg => Ev.eql (gvE hg rfl) (gvE hg rfl)) <| Y.v (Ev.pickAnd rfl rfl rfl) <| Y.v (Ev.mvB rfl) <| OPS.gcall0 (f := 10) (law45Awake _) (fun _ _ h => h) rfl rfl rfl rfl rfl (fun hg => (EvC.func (fun_run rfl))) ?_
 intro w hbc; replace H := H.toBelow hbc
 refine Y.v (Ev.pickAnd rfl rfl rfl) <| Y.v (Ev.asB rfl) <| Y.z ?_
 refine WP.ret ⟨_, rfl, ?_⟩
 exact ⟨ret_b rfl (by simp [hrr]), H.below⟩
end Go.Proofs.YtgcokllbophkkaaGreat
