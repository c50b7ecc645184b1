/-
  Walks: example, awake, Short.
-/
import Derived.Test.YtgjfjbphngamgaaBM6
import Derived.Test.YtgjfjbphngamgaaRM4
set_option linter.all false
namespace Go.Proofs.Ytgjfjbphngamgaa
open Go Go.W Go.RowKit

def xbCells (a b : Nat) (c : Option Addr) (nl nc : Nat) : List Value := [I 3, .slice (some ⟨a, 0, none⟩) xbL.length 3, .slice (some ⟨b, 0, none⟩) xbT.length 1, .slice c nl nc, I 0]
theorem lawExample (A : Option Addr) (nl nc : Nat) (w0 : World) : Calls Try.prog 19 #[.slice A nl nc] w0 fun e w' => ∃ a b : Nat, e = .returned (.agg (xbCells a b A nl nc).toArray) ∧ SH w0 [] w' [⟨a, 44, xbL.flatMap edgCells⟩, ⟨b, 42, xbT.flatMap truckCells⟩] := by
  have H := SH.refl w0
  refine Calls.ofWPc Try.func19 rfl Try.results19 Try.ntmps19 rfl ?_
  refine WP.seq ?_
  refine WP.region ?_
  refine OPS.alloc rfl rfl rfl rfl (zero_run rfl) rfl H ?_
  clear H; intro g2 w H
  refine OPS.nil ?_
  refine WP.seq ?_
  refine WP.region ?_
  refine OPS.val rfl rfl rfl (Ev.build (bld_44_0_1_2 rfl rfl rfl)) ?_
  refine OPS.val rfl rfl rfl (Ev.build (bld_44_0_1_2 rfl rfl rfl)) ?_
  refine OPS.val rfl rfl rfl (Ev.build (bld_44_0_1_2 rfl rfl rfl)) ?_
  refine OPS.buildSlice rfl rfl rfl rfl (bsl_22_3_0_1_2 rfl rfl rfl) H ?_
  clear H; intro g7 w H
  refine OPS.val rfl rfl rfl (Ev.build (bld_24_0_1 rfl rfl)) ?_
  refine OPS.alloc rfl rfl rfl rfl (zero_run rfl) rfl H ?_
  clear H; intro g3 w H
  refine OPS.store 0 _ rfl rfl rfl (size_run rfl) rfl (cA rfl) rfl rfl H rfl (by simp) ?_
  clear H; intro w H; try simp only [List.set_cons_zero, List.set_cons_succ, putL, Nat.zero_add] at H
  refine OPS.nil ?_
  refine WP.seq ?_
  refine WP.region ?_
  refine OPS.val rfl rfl rfl ((by exact Ev.loadO 0 H rfl (agg_run rfl) (size_run rfl) (by rfl) rfl)) ?_
  refine OPS.val rfl rfl rfl (Ev.build (bld_40_1 rfl)) ?_
  refine OPS.val rfl rfl rfl (Ev.build (bld_42_1_2 rfl rfl)) ?_
  refine OPS.buildSlice rfl rfl rfl rfl (bsl_25_1_0 rfl) H ?_
  clear H; intro g12 w H
  refine OPS.val rfl rfl rfl (Ev.mvS rfl) ?_
  refine OPS.val rfl rfl rfl (Ev.build (bld_28_0_1_2 rfl rfl rfl)) ?_
  refine OPS.store 3 _ rfl rfl rfl (size_run rfl) rfl (cA rfl) rfl rfl H rfl (by simp) ?_
  clear H; intro w H; try simp only [List.set_cons_zero, List.set_cons_succ, putL, Nat.zero_add] at H
  refine OPS.nil ?_
  refine WP.ret ⟨[_], ⟨(by exact resCellA 3 H rfl (agg_run rfl) (size_run rfl) (by rfl) rfl), trivial⟩, ?_⟩
  exact ⟨g7, g12, rfl, H.reidx [2, 0] (by decide) rfl⟩
theorem r44Short (s b : Int) (AU AV : Option Addr) (nu cu nv cv : Nat) (w0 : World) : Calls Try.prog 15 #[.agg (bndL s b AU nu cu AV nv cv).toArray] w0 fun e w' => e = .returned (.bool (decide (nu ≤ 50) && decide (nv ≤ 50))) ∧ Below w0.heap.size w0 w' := by
  have H := SH.refl w0
  refine Calls.ofWP Try.func15 rfl Try.results15 Try.ntmps15 rfl ?_
  refine WP.seq ?_
  refine WP.region ?_
  refine OPS.box rfl rfl rfl rfl (cA rfl) H ?_
  clear H; intro g1 w H
  refine OPS.val rfl rfl rfl (Ev.asB rfl) ?_
  refine OPS.nil ?_
  refine WP.seq ?_
  refine WP.region ?_
  refine OPS.val rfl rfl rfl (Ev.fieldAddr (fld_run rfl) rfl) ?_
  refine OPS.val rfl rfl rfl (Ev.load1 (agg_run rfl) rfl (by exact H.ldL 0 rfl _ rfl)) ?_
  refine OPS.val rfl rfl rfl (Ev.len (el_run rfl) rfl) ?_
  refine OPS.val rfl rfl rfl (Ev.leq rfl rfl) ?_
  refine OPS.val rfl rfl rfl (Ev.mvB rfl) ?_
  refine OPS.gval rfl rfl rfl rfl rfl (fun hg => Ev.fieldAddr (fld_run rfl) (by rfl)) ?_
  refine OPS.gval rfl rfl rfl rfl rfl (fun hg => Ev.load1 (agg_run rfl) (by exact gvE hg rfl) (by exact H.ldL 0 rfl _ rfl)) ?_
  refine OPS.gval rfl rfl rfl rfl rfl (fun hg => Ev.len (el_run rfl) (by exact gvE hg rfl)) ?_
  refine OPS.gval rfl rfl rfl rfl rfl (fun hg => Ev.leq (by exact gvE hg rfl) (by rfl)) ?_
  refine OPS.val rfl rfl rfl ((by exact Ev.pickAnd rfl rfl rfl)) ?_
  refine OPS.val rfl rfl rfl (Ev.asB rfl) ?_
  refine OPS.nil ?_
  refine WP.ret ⟨_, rfl, ?_⟩
  have h1 : decide ((nu : Int) ≤ 50) = decide (nu ≤ 50) := decide_eq_decide.2 (by omega)
  have h2 : decide ((nv : Int) ≤ 50) = decide (nv ≤ 50) := decide_eq_decide.2 (by omega)
  exact ⟨by rw [← h1, ← h2]; rfl, H.below⟩
theorem nightX {w0 w : World} {S : List Nat} {L : List Blk} {a b c : Nat} {ns : List Need} (H : SH w0 S w [⟨a, 44, xbL.flatMap edgCells⟩, ⟨b, 42, xbT.flatMap truckCells⟩]) (H2 : SH w0 S w L) (i : Nat) (hi : L[i]? = some ⟨c, 48, ns.flatMap needCells⟩) :
    NightAt w (some ⟨a, 0, none⟩) (some ⟨b, 0, none⟩) (some ⟨c, 0, none⟩) xbL xbT ns ns.length :=
  ⟨rowsOwn' (enc := edgCells) (sz := 3) (l := xbL) (fun _ => rfl) H 0 rfl, rowsOwn' (enc := truckCells) (sz := 4) (l := xbT) (fun _ => rfl) H 1 rfl, rowsOwn' (enc := needCells) (sz := 2) (l := ns) (fun _ => rfl) H2 i hi, Nat.le_refl _⟩
section
variable (a b c : Nat) (w0 : World)
theorem xbFind1 (h : NightAt w0 (some ⟨a, 0, none⟩) (some ⟨b, 0, none⟩) (some ⟨c, 0, none⟩) xbL xbT xb1 2) : Calls Try.prog 11 #[.agg (xbCells a b (some ⟨c, 0, none⟩) 2 2).toArray] w0 fun e w' => ∃ (us vs : List Int) (AU AV : Option Addr) (cu cv : Nat) (L : List Blk),
      e = .returned (.tuple #[.agg (bndL 150 3 AU us.length cu AV vs.length cv).toArray, I 0]) ∧ ProvedP 3 xbL xbT xb1 0 150 3 us vs ∧ Reads L (fun w => IntsAt w AU us ∧ IntsAt w AV vs) ∧ SH w0 [] w' L := by
  refine (boundFind 3 0 _ _ _ xbL xbT xb1 3 1 2 w0 h).mono fun e w' ⟨s, b, us, vs, AU, AV, cu, cv, L, h1, h2, h3, h4⟩ => ?_
  rw [xbE1] at h1
  have hp := h2.proved xbE1
  obtain ⟨rfl, rfl⟩ := xbR1 h2
  exact ⟨us, vs, AU, AV, cu, cv, L, h1, hp, h3, h4⟩
theorem xbFind2 (h : NightAt w0 (some ⟨a, 0, none⟩) (some ⟨b, 0, none⟩) (some ⟨c, 0, none⟩) xbL xbT xb2 2) : Calls Try.prog 11 #[.agg (xbCells a b (some ⟨c, 0, none⟩) 2 2).toArray] w0 fun e w' => ∃ (s b : Int) (nu nv : Nat) (AU AV : Option Addr) (cu cv : Nat),
      e = .returned (.tuple #[.agg (bndL s b AU nu cu AV nv cv).toArray, I 10]) ∧ Below w0.heap.size w0 w' := by
  refine (boundFind 3 0 _ _ _ xbL xbT xb2 3 1 2 w0 h).mono fun e w' ⟨s, b, us, vs, AU, AV, cu, cv, L, h1, h2, h3, h4⟩ => ?_
  rw [xbE2] at h1
  exact ⟨s, b, _, _, AU, AV, cu, cv, h1, h4.below⟩
theorem xbFind3 (h : NightAt w0 (some ⟨a, 0, none⟩) (some ⟨b, 0, none⟩) (some ⟨c, 0, none⟩) xbL xbT xb3 1) : Calls Try.prog 11 #[.agg (xbCells a b (some ⟨c, 0, none⟩) 1 1).toArray] w0 fun e w' => ∃ (b : Int) (nu nv : Nat) (AU AV : Option Addr) (cu cv : Nat),
      e = .returned (.tuple #[.agg (bndL 0 b AU nu cu AV nv cv).toArray, I 0]) ∧ Below w0.heap.size w0 w' := by
  refine (boundFind 3 0 _ _ _ xbL xbT xb3 3 1 1 w0 h).mono fun e w' ⟨s, b, us, vs, AU, AV, cu, cv, L, h1, h2, h3, h4⟩ => ?_
  rw [xbE3] at h1
  obtain rfl := xbR3 h2
  exact ⟨b, _, _, AU, AV, cu, cv, h1, h4.below⟩
theorem xbFind4 (h : NightAt w0 (some ⟨a, 0, none⟩) (some ⟨b, 0, none⟩) (some ⟨c, 0, none⟩) xbL xbT xb4 3) : Calls Try.prog 11 #[.agg (xbCells a b (some ⟨c, 0, none⟩) 3 3).toArray] w0 fun e w' => ∃ (b : Int) (nu nv : Nat) (AU AV : Option Addr) (cu cv : Nat),
      e = .returned (.tuple #[.agg (bndL 100 b AU nu cu AV nv cv).toArray, I 0]) ∧ Below w0.heap.size w0 w' := by
  refine (boundFind 3 0 _ _ _ xbL xbT xb4 3 1 3 w0 h).mono fun e w' ⟨s, b, us, vs, AU, AV, cu, cv, L, h1, h2, h3, h4⟩ => ?_
  rw [xbE4] at h1
  obtain rfl := xbR4 h2
  exact ⟨b, _, _, AU, AV, cu, cv, h1, h4.below⟩
end
theorem provedT (n hd s b : Int) (A B C AU AV : Option Addr) (l : List Edg) (ts : List Truck) (ns : List Need) (us vs : List Int) (ca cb cc cu cv : Nat) (w0 : World) (hN : NightAt w0 A B C l ts ns cc) (hU : IntsAt w0 AU us) (hV : IntsAt w0 AV vs) (hp : ProvedP n l ts ns hd s b us vs) :
    Calls Try.prog 14 #[.agg #[I n, .slice A l.length ca, .slice B ts.length cb, .slice C ns.length cc, I hd], .agg (bndL s b AU us.length cu AV vs.length cv).toArray] w0 fun e w' => e = .returned (.bool true) ∧ Below w0.heap.size w0 w' := by
  have h16 : us.length ≤ 1000 ∧ vs.length ≤ 1000 := by
    have h0 : nightErr n l ts ns hd = 0 := by
      have := hp.err
      unfold findErr at this
      split at this
      · rename_i h; exact absurd this h
      · rename_i h; simpa using h
    obtain ⟨m, _, hK⟩ := nightOk_of h0
    have h1 := hp.un.2
    have h2 := hp.vn.2
    have hl1 : (colN ns).length ≤ ns.length := List.length_filter_le _ _
    have hl2 : (briN ns).length ≤ ns.length := List.length_filter_le _ _
    have := hK.nl
    omega
  exact (boundProved n hd s b A B C AU AV l ts ns us vs ca cb cc cu cv w0 hN hU hV h16.1 h16.2).mono fun e w' ⟨r, h1, h2, h3⟩ => ⟨by rw [h1, h2.2 hp], h3⟩
theorem provedF (n hd s b : Int) (A B C AU AV : Option Addr) (l : List Edg) (ts : List Truck) (ns : List Need) (us vs : List Int) (ca cb cc cu cv : Nat) (w0 : World) (hN : NightAt w0 A B C l ts ns cc) (hU : IntsAt w0 AU us) (hV : IntsAt w0 AV vs) (h1 : us.length ≤ 1000) (h2 : vs.length ≤ 1000) (hp : ¬ ProvedP n l ts ns hd s b us vs) :
    Calls Try.prog 14 #[.agg #[I n, .slice A l.length ca, .slice B ts.length cb, .slice C ns.length cc, I hd], .agg (bndL s b AU us.length cu AV vs.length cv).toArray] w0 fun e w' => e = .returned (.bool false) ∧ Below w0.heap.size w0 w' :=
  (boundProved n hd s b A B C AU AV l ts ns us vs ca cb cc cu cv w0 hN hU hV h1 h2).mono fun e w' ⟨r, h1, h2, h3⟩ => ⟨by
    have : r = false := by cases r with | false => rfl | true => exact absurd (h2.1 rfl) hp
    rw [h1, this], h3⟩
end Go.Proofs.Ytgjfjbphngamgaa

/-
  Walk: awake.
-/
set_option linter.all false
namespace Go.Proofs.Ytgjfjbphngamgaa
open Go Go.W Go.RowKit

theorem sl2 {x y : Blk} {X : List Blk} : ([x, y] : List Blk).Sublist (x :: y :: X) := List.Sublist.cons_cons _ (List.Sublist.cons_cons _ (List.nil_sublist _))
theorem c7 {X Y : List Blk} (h : X.Sublist Y) {a b c d e f g : Blk} : X.Sublist (a :: b :: c :: d :: e :: f :: g :: Y) := ((((((h.cons _).cons _).cons _).cons _).cons _).cons _).cons _
theorem c9 {X Y : List Blk} (h : X.Sublist Y) {a b c d e f g i j : Blk} : X.Sublist (a :: b :: c :: d :: e :: f :: g :: i :: j :: Y) := c7 ((h.cons _).cons _)
set_option maxRecDepth 20000 in
set_option maxHeartbeats 4000000 in
theorem lawAwakeB (w0 : World) : Calls Try.prog 10 #[] w0 fun e w' => e = .returned (.bool true) ∧ Below w0.heap.size w0 w' := by
  have H := SH.refl w0
  refine Calls.ofWP Try.func10 rfl Try.results10 Try.ntmps10 rfl ?_
  refine WP.seq ?_
  refine WP.region ?_
  refine OPS.val rfl rfl rfl (Ev.asB rfl) ?_
  refine OPS.nil ?_
  refine WP.seq ?_
  refine WP.region ?_
  refine OPS.val rfl rfl rfl (Ev.build (bld_48_0_1 rfl rfl)) ?_
  refine OPS.val rfl rfl rfl (Ev.build (bld_48_1 rfl)) ?_
  refine OPS.buildSlice rfl rfl rfl rfl (bsl_26_2_0_1 rfl rfl) H ?_
  clear H; intro g13 w H
  refine OPS.call (d := some 14) rfl rfl rfl (EvC.func (fun_run rfl)) (lawExample (some ⟨g13, 0, none⟩) 2 2 w) ?_
  rintro _ w ⟨ga, gb, rfl, Hc⟩
  refine ⟨_, rfl, ?_⟩
  replace H := SH.call (Lv := []) (by rw [List.append_nil]; exact H) Hc
  clear Hc
  refine OPS.alloc rfl rfl rfl rfl (zero_run rfl) rfl H ?_
  clear H; intro g1 w H
  refine OPS.store 0 _ rfl rfl rfl (size_run rfl) rfl (cA rfl) rfl rfl H rfl (by simp) ?_
  clear H; intro w H; try simp only [List.set_cons_zero, List.set_cons_succ, putL, Nat.zero_add] at H
  refine OPS.nil ?_
  replace H : SH w0 [] w [⟨g1, 28, xbCells ga gb (some ⟨g13, 0, none⟩) 2 2⟩, ⟨g13, 48, xb1.flatMap needCells⟩, ⟨ga, 44, xbL.flatMap edgCells⟩, ⟨gb, 42, xbT.flatMap truckCells⟩] := H
  refine WP.seq ?_
  refine WP.region ?_
  refine OPS.val rfl rfl rfl ((by exact Ev.loadO 0 H rfl (agg_run rfl) (size_run rfl) (by rfl) rfl)) ?_
  refine OPS.call (d := some 17) rfl rfl rfl (EvC.func (fun_run rfl)) (xbFind1 ga gb g13 w (nightX (H.drop ((sl2.cons _).cons _)) H 1 rfl)) ?_
  rintro _ w ⟨us, vs, AU, AV, cu, cv, L1, rfl, hp1, hrd1, Hc⟩
  refine ⟨_, rfl, ?_⟩
  replace H := SH.call (Lv := []) (by rw [List.append_nil]; exact H) Hc
  clear Hc
  refine OPS.val rfl rfl rfl (Ev.mvT rfl) ?_
  refine OPS.val rfl rfl rfl (Ev.extract rfl rfl) ?_
  refine OPS.val rfl rfl rfl (Ev.extract rfl rfl) ?_
  refine OPS.alloc rfl rfl rfl rfl (zero_run rfl) rfl H ?_
  clear H; intro g2 w H
  refine OPS.store 0 _ rfl rfl rfl (size_run rfl) rfl (cA rfl) rfl rfl H rfl (by simp) ?_
  clear H; intro w H; try simp only [List.set_cons_zero, List.set_cons_succ, putL, Nat.zero_add] at H
  refine OPS.val rfl rfl rfl (Ev.asI rfl) ?_
  refine OPS.nil ?_
  refine WP.seq ?_
  refine WP.region ?_
  refine OPS.val rfl rfl rfl (Ev.build (bld_48_0_1 rfl rfl)) ?_
  refine OPS.val rfl rfl rfl (Ev.build (bld_48_1 rfl)) ?_
  refine OPS.buildSlice rfl rfl rfl rfl (bsl_26_2_0_1 rfl rfl) H ?_
  clear H; intro g23 w H
  refine OPS.call (d := some 24) rfl rfl rfl (EvC.func (fun_run rfl)) (lawExample (some ⟨g23, 0, none⟩) 2 2 w) ?_
  rintro _ w ⟨a3, b3, rfl, Hc⟩
  refine ⟨_, rfl, ?_⟩
  replace H := SH.call (Lv := []) (by rw [List.append_nil]; exact H) Hc
  clear Hc
  refine OPS.call (d := some 25) rfl rfl rfl (EvC.func (fun_run rfl)) (xbFind2 a3 b3 g23 w (nightX (H.drop (List.sublist_append_right _ _)) H 0 rfl)) ?_
  rintro _ w ⟨s3, bb3, nu3, nv3, AU3, AV3, cu3, cv3, rfl, hb⟩
  refine ⟨_, rfl, ?_⟩
  replace H := H.toBelow hb; clear hb
  replace H := H.drop ((List.sublist_cons_self _ _).trans (List.sublist_append_left _ _))
  refine OPS.val rfl rfl rfl (Ev.mvT rfl) ?_
  refine OPS.val rfl rfl rfl (Ev.extract rfl rfl) ?_
  refine OPS.val rfl rfl rfl (Ev.extract rfl rfl) ?_
  refine OPS.alloc rfl rfl rfl rfl (zero_run rfl) rfl H ?_
  clear H; intro g4 w H
  refine OPS.store 0 _ rfl rfl rfl (size_run rfl) rfl (cA rfl) rfl rfl H rfl (by simp) ?_
  clear H; intro w H; try simp only [List.set_cons_zero, List.set_cons_succ, putL, Nat.zero_add] at H
  refine OPS.val rfl rfl rfl (Ev.asI rfl) ?_
  refine OPS.nil ?_
  replace H := H.drop (List.sublist_cons_self _ _)
  refine WP.seq ?_
  refine WP.region ?_
  refine OPS.val rfl rfl rfl (Ev.build (bld_48_0_1 rfl rfl)) ?_
  refine OPS.buildSlice rfl rfl rfl rfl (bsl_26_1_0 rfl) H ?_
  clear H; intro g30 w H
  refine OPS.call (d := some 31) rfl rfl rfl (EvC.func (fun_run rfl)) (lawExample (some ⟨g30, 0, none⟩) 1 1 w) ?_
  rintro _ w ⟨a4, b4, rfl, Hc⟩
  refine ⟨_, rfl, ?_⟩
  replace H := SH.call (Lv := []) (by rw [List.append_nil]; exact H) Hc
  clear Hc
  refine OPS.call (d := some 32) rfl rfl rfl (EvC.func (fun_run rfl)) (xbFind3 a4 b4 g30 w (nightX (H.drop (List.sublist_append_right _ _)) H 0 rfl)) ?_
  rintro _ w ⟨bb4, nu4, nv4, AU4, AV4, cu4, cv4, rfl, hb⟩
  refine ⟨_, rfl, ?_⟩
  replace H := H.toBelow hb; clear hb
  replace H := H.drop ((List.sublist_cons_self _ _).trans (List.sublist_append_left _ _))
  refine OPS.val rfl rfl rfl (Ev.mvT rfl) ?_
  refine OPS.val rfl rfl rfl (Ev.extract rfl rfl) ?_
  refine OPS.val rfl rfl rfl (Ev.extract rfl rfl) ?_
  refine OPS.alloc rfl rfl rfl rfl (zero_run rfl) rfl H ?_
  clear H; intro g6 w H
  refine OPS.store 0 _ rfl rfl rfl (size_run rfl) rfl (cA rfl) rfl rfl H rfl (by simp) ?_
  clear H; intro w H; try simp only [List.set_cons_zero, List.set_cons_succ, putL, Nat.zero_add] at H
  refine OPS.val rfl rfl rfl (Ev.asI rfl) ?_
  refine OPS.nil ?_
  refine WP.seq ?_
  refine WP.region ?_
  refine OPS.val rfl rfl rfl (Ev.build (bld_48_0_1 rfl rfl)) ?_
  refine OPS.val rfl rfl rfl (Ev.build (bld_48_1 rfl)) ?_
  refine OPS.val rfl rfl rfl (Ev.build (bld_48_0_1 rfl rfl)) ?_
  refine OPS.buildSlice rfl rfl rfl rfl (bsl_26_3_0_1_2 rfl rfl rfl) H ?_
  clear H; intro g38 w H
  refine OPS.call (d := some 39) rfl rfl rfl (EvC.func (fun_run rfl)) (lawExample (some ⟨g38, 0, none⟩) 3 3 w) ?_
  rintro _ w ⟨a5, b5, rfl, Hc⟩
  refine ⟨_, rfl, ?_⟩
  replace H := SH.call (Lv := []) (by rw [List.append_nil]; exact H) Hc
  clear Hc
  refine OPS.alloc rfl rfl rfl rfl (zero_run rfl) rfl H ?_
  clear H; intro g8 w H
  refine OPS.store 0 _ rfl rfl rfl (size_run rfl) rfl (cA rfl) rfl rfl H rfl (by simp) ?_
  clear H; intro w H; try simp only [List.set_cons_zero, List.set_cons_succ, putL, Nat.zero_add] at H
  refine OPS.nil ?_
  refine WP.seq ?_
  refine WP.region ?_
  refine OPS.val rfl rfl rfl ((by exact Ev.loadO 0 H rfl (agg_run rfl) (size_run rfl) (by rfl) rfl)) ?_
  refine OPS.call (d := some 42) rfl rfl rfl (EvC.func (fun_run rfl)) (xbFind4 a5 b5 g38 w (nightX (H.drop ((List.sublist_append_right _ _).cons _)) H 1 rfl)) ?_
  rintro _ w ⟨bb6, nu6, nv6, AU6, AV6, cu6, cv6, rfl, hb⟩
  refine ⟨_, rfl, ?_⟩
  replace H := H.toBelow hb; clear hb
  refine OPS.val rfl rfl rfl (Ev.mvT rfl) ?_
  refine OPS.val rfl rfl rfl (Ev.extract rfl rfl) ?_
  refine OPS.val rfl rfl rfl (Ev.extract rfl rfl) ?_
  refine OPS.alloc rfl rfl rfl rfl (zero_run rfl) rfl H ?_
  clear H; intro g9 w H
  refine OPS.store 0 _ rfl rfl rfl (size_run rfl) rfl (cA rfl) rfl rfl H rfl (by simp) ?_
  clear H; intro w H; try simp only [List.set_cons_zero, List.set_cons_succ, putL, Nat.zero_add] at H
  refine OPS.val rfl rfl rfl (Ev.asI rfl) ?_
  refine OPS.nil ?_
  refine WP.seq ?_
  refine WP.seq ?_
  refine WP.region ?_
  refine OPS.val rfl rfl rfl (Ev.mvI rfl) ?_
  refine OPS.val rfl rfl rfl (Ev.neq rfl rfl) ?_
  refine OPS.val rfl rfl rfl (Ev.mvB rfl) ?_
  refine OPS.gval rfl rfl rfl rfl rfl (fun hg => Ev.mvI (by rfl)) ?_
  refine OPS.gval rfl rfl rfl rfl rfl (fun hg => Ev.neq (by exact gvE hg rfl) (by rfl)) ?_
  refine OPS.val rfl rfl rfl ((by exact Ev.pickOr rfl rfl rfl)) ?_
  refine OPS.val rfl rfl rfl (Ev.mvB rfl) ?_
  refine OPS.gval rfl rfl rfl rfl rfl (fun hg => Ev.mvI (by rfl)) ?_
  refine OPS.gval rfl rfl rfl rfl rfl (fun hg => Ev.neq (by exact gvE hg rfl) (by rfl)) ?_
  refine OPS.val rfl rfl rfl ((by exact Ev.pickOr rfl rfl rfl)) ?_
  refine OPS.val rfl rfl rfl (Ev.mvB rfl) ?_
  refine OPS.gval rfl rfl rfl rfl rfl (fun hg => Ev.mvI (by rfl)) ?_
  refine OPS.gval rfl rfl rfl rfl rfl (fun hg => Ev.neq (by exact gvE hg rfl) (by rfl)) ?_
  refine OPS.val rfl rfl rfl ((by exact Ev.pickOr rfl rfl rfl)) ?_
  refine OPS.val rfl rfl rfl (Ev.mvB rfl) ?_
  refine OPS.gval rfl rfl rfl rfl rfl (fun hg => Ev.fieldAddr (fld_run rfl) (by rfl)) ?_
  refine OPS.gval rfl rfl rfl rfl rfl (fun hg => Ev.load1 (agg_run rfl) (by exact gvE hg rfl) (by exact H.ldL 4 rfl _ rfl)) ?_
  refine OPS.gval rfl rfl rfl rfl rfl (fun hg => Ev.neq (by exact gvE hg rfl) (by rfl)) ?_
  refine OPS.val rfl rfl rfl ((by exact Ev.pickOr rfl rfl rfl)) ?_
  refine OPS.val rfl rfl rfl (Ev.mvB rfl) ?_
  refine OPS.gval rfl rfl rfl rfl rfl (fun hg => Ev.fieldAddr (fld_run rfl) (by rfl)) ?_
  refine OPS.gval rfl rfl rfl rfl rfl (fun hg => Ev.load1 (agg_run rfl) (by exact gvE hg rfl) (by exact H.ldL 4 rfl _ rfl)) ?_
  refine OPS.gval rfl rfl rfl rfl rfl (fun hg => Ev.neq (by exact gvE hg rfl) (by rfl)) ?_
  refine OPS.val rfl rfl rfl ((by exact Ev.pickOr rfl rfl rfl)) ?_
  refine OPS.val rfl rfl rfl (Ev.mvB rfl) ?_
  refine OPS.gval rfl rfl rfl rfl rfl (fun hg => Ev.fieldAddr (fld_run rfl) (by rfl)) ?_
  refine OPS.gval rfl rfl rfl rfl rfl (fun hg => Ev.load1 (agg_run rfl) (by exact gvE hg rfl) (by exact H.ldL 3 rfl _ rfl)) ?_
  refine OPS.gval rfl rfl rfl rfl rfl (fun hg => Ev.neq (by exact gvE hg rfl) (by rfl)) ?_
  refine OPS.val rfl rfl rfl ((by exact Ev.pickOr rfl rfl rfl)) ?_
  refine OPS.val rfl rfl rfl (Ev.mvB rfl) ?_
  refine OPS.gval rfl rfl rfl rfl rfl (fun hg => Ev.fieldAddr (fld_run rfl) (by rfl)) ?_
  refine OPS.gval rfl rfl rfl rfl rfl (fun hg => Ev.load1 (agg_run rfl) (by exact gvE hg rfl) (by exact H.ldL 0 rfl _ rfl)) ?_
  refine OPS.gval rfl rfl rfl rfl rfl (fun hg => Ev.neq (by exact gvE hg rfl) (by rfl)) ?_
  refine OPS.val rfl rfl rfl ((by exact Ev.pickOr rfl rfl rfl)) ?_
  refine OPS.nil ?_
  refine WP.cond rfl (fun hc7 => ?_) (fun hc7 => ?_)
  · refine WP.seq ?_
    refine WP.region ?_
    refine OPS.val rfl rfl rfl (Ev.asB rfl) ?_
    refine OPS.nil ?_
    refine WP.ret ⟨_, rfl, ?_⟩
    exact absurd hc7 (by decide)
  refine WP.skip ?_
  refine WP.seq ?_
  simp only [List.cons_append, List.nil_append] at H
  obtain ⟨LX, hLX⟩ : ∃ LX, LX = L1 ++ [(⟨a5, 44, xbL.flatMap edgCells⟩ : Blk), ⟨b5, 42, xbT.flatMap truckCells⟩] := ⟨_, rfl⟩
  have hs1 : L1.Sublist LX := by rw [hLX]; exact List.sublist_append_left _ _
  have hs2 : ([⟨a5, 44, xbL.flatMap edgCells⟩, ⟨b5, 42, xbT.flatMap truckCells⟩] : List Blk).Sublist LX := by rw [hLX]; exact List.sublist_append_right _ _
  rw [← hLX] at H
  clear hLX
  refine WP.region ?_
  refine OPS.val rfl rfl rfl ((by exact Ev.loadO 5 H rfl (agg_run rfl) (size_run rfl) (by rfl) rfl)) ?_
  refine OPS.val rfl rfl rfl ((by exact Ev.loadO 4 H rfl (agg_run rfl) (size_run rfl) (by rfl) rfl)) ?_
  have hUV := hrd1.at H (c9 hs1)
  refine OPS.call (d := some 81) rfl rfl rfl (EvC.func (fun_run rfl)) (provedT 3 0 150 3 _ _ _ AU AV xbL xbT xb1 us vs 3 1 2 cu cv w (nightX (H.drop (c7 sl2)) H 6 rfl) hUV.1 hUV.2 hp1) ?_
  rintro _ w ⟨rfl, hb⟩
  refine ⟨_, rfl, ?_⟩
  replace H := H.toBelow hb; clear hb
  refine OPS.val rfl rfl rfl (Ev.mvB rfl) ?_
  refine OPS.gyes rfl rfl rfl rfl ?_
  refine OPS.val rfl rfl rfl (Ev.loadO 5 H rfl (agg_run rfl) (size_run rfl) rfl rfl) ?_
  refine OPS.gyes rfl rfl rfl rfl ?_
  refine OPS.buildSlice rfl rfl rfl rfl (bsl_31_1_0 rfl) H ?_
  clear H; intro g84 w H
  refine OPS.gyes rfl rfl rfl rfl ?_
  refine OPS.buildSlice rfl rfl rfl rfl (bsl_31_1_0 rfl) H ?_
  clear H; intro g85 w H
  refine OPS.gyes rfl rfl rfl rfl ?_
  refine OPS.val rfl rfl rfl (Ev.build (bld_33_0_1_2_3 rfl rfl rfl rfl)) ?_
  refine OPS.gyes rfl rfl rfl rfl ?_
  refine OPS.call (d := some 87) rfl rfl rfl (EvC.func (fun_run rfl)) (provedT 3 0 150 3 _ _ _ (some ⟨g84, 0, none⟩) (some ⟨g85, 0, none⟩) xbL xbT xb1 [0] [200] 3 1 2 1 1 w (nightX (H.drop (((c7 sl2).cons _).cons _)) H 8 rfl) (onesOwn (l := [0]) H 1 rfl) (onesOwn (l := [200]) H 0 rfl) xbP1) ?_
  rintro _ w ⟨rfl, hb⟩
  refine ⟨_, rfl, ?_⟩
  replace H := (H.toBelow hb).drop ((List.sublist_cons_self _ _).trans (List.sublist_cons_self _ _))
  clear hb
  refine OPS.val rfl rfl rfl (Ev.pickT (v := .bool true) rfl rfl rfl) ?_
  refine OPS.val rfl rfl rfl (Ev.mvB rfl) ?_
  refine OPS.gyes rfl rfl rfl rfl ?_
  refine OPS.val rfl rfl rfl (Ev.loadO 5 H rfl (agg_run rfl) (size_run rfl) rfl rfl) ?_
  refine OPS.gyes rfl rfl rfl rfl ?_
  refine OPS.buildSlice rfl rfl rfl rfl (bsl_31_1_0 rfl) H ?_
  clear H; intro g91 w H
  refine OPS.gyes rfl rfl rfl rfl ?_
  refine OPS.buildSlice rfl rfl rfl rfl (bsl_31_1_0 rfl) H ?_
  clear H; intro g92 w H
  refine OPS.gyes rfl rfl rfl rfl ?_
  refine OPS.val rfl rfl rfl (Ev.build (bld_33_0_1_2_3 rfl rfl rfl rfl)) ?_
  refine OPS.gyes rfl rfl rfl rfl ?_
  refine OPS.call (d := some 94) rfl rfl rfl (EvC.func (fun_run rfl)) (provedF 3 0 151 3 _ _ _ (some ⟨g91, 0, none⟩) (some ⟨g92, 0, none⟩) xbL xbT xb1 [0] [201] 3 1 2 1 1 w (nightX (H.drop (((c7 sl2).cons _).cons _)) H 8 rfl) (onesOwn (l := [0]) H 1 rfl) (onesOwn (l := [201]) H 0 rfl) (by decide) (by decide) xbP2) ?_
  rintro _ w ⟨rfl, hb⟩
  refine ⟨_, rfl, ?_⟩
  replace H := (H.toBelow hb).drop ((List.sublist_cons_self _ _).trans (List.sublist_cons_self _ _))
  clear hb
  refine OPS.gyes rfl rfl rfl rfl ?_
  refine OPS.val rfl rfl rfl (Ev.not rfl) ?_
  refine OPS.val rfl rfl rfl (Ev.pickT (v := .bool true) rfl rfl rfl) ?_
  refine OPS.val rfl rfl rfl (Ev.mvB rfl) ?_
  refine OPS.gyes rfl rfl rfl rfl ?_
  refine OPS.val rfl rfl rfl (Ev.loadO 1 H rfl (agg_run rfl) (size_run rfl) rfl rfl) ?_
  refine OPS.gyes rfl rfl rfl rfl ?_
  refine OPS.buildSlice rfl rfl rfl rfl (bsl_31_2_0_1 rfl rfl) H ?_
  clear H; intro g99 w H
  refine OPS.gyes rfl rfl rfl rfl ?_
  refine OPS.buildSlice rfl rfl rfl rfl (bsl_31_1_0 rfl) H ?_
  clear H; intro g100 w H
  refine OPS.gyes rfl rfl rfl rfl ?_
  refine OPS.val rfl rfl rfl (Ev.build (bld_33_0_1_2_3 rfl rfl rfl rfl)) ?_
  refine OPS.gyes rfl rfl rfl rfl ?_
  refine OPS.call (d := some 102) rfl rfl rfl (EvC.func (fun_run rfl)) (provedT 3 0 100 3 _ _ _ (some ⟨g99, 0, none⟩) (some ⟨g100, 0, none⟩) xbL xbT xb4 [0, 100] [200] 3 1 3 2 1 w (nightX (H.drop (((c9 hs2).cons _).cons _)) H 4 rfl) (onesOwn (l := [0, 100]) H 1 rfl) (onesOwn (l := [200]) H 0 rfl) xbP4) ?_
  rintro _ w ⟨rfl, hb⟩
  refine ⟨_, rfl, ?_⟩
  replace H := H.toBelow hb
  clear hb
  refine OPS.val rfl rfl rfl (Ev.pickT (v := .bool true) rfl rfl rfl) ?_
  refine OPS.val rfl rfl rfl (Ev.asB rfl) ?_
  refine OPS.nil ?_
  refine WP.ret ⟨_, rfl, ?_⟩
  exact ⟨rfl, H.below⟩
end Go.Proofs.Ytgjfjbphngamgaa

/-
  The laws BoundBest, BoundNeeds.
-/
set_option linter.all false
namespace Go.Proofs.Ytgjfjbphngamgaa
open Go Go.W Go.RowKit

/-! ### a further need that brings -/
theorem findErr_night {n hd : Int} {l : List Edg} {ts : List Truck} {ns : List Need} (h : findErr n l ts ns hd = 0) : ∃ m : Nat, n = m ∧ NightOk m l ts ns hd ∧ emptyB (capL ts) (movC ns).sum (movD ns).sum = false ∧ Flo.Hall (movC ns) (movD ns) (timL m l ns) := by
  unfold findErr at h
  split at h
  · rename_i h1; exact absurd h h1
  · rename_i h1
    obtain ⟨m, rfl, hK⟩ := nightOk_of (by simpa using h1)
    unfold solveErr at h
    split at h
    · cases h
    · rename_i h2
      split at h
      · rename_i h3; exact ⟨m, rfl, hK, by simpa using h2, by simpa using h3⟩
      · cases h
end Go.Proofs.Ytgjfjbphngamgaa
