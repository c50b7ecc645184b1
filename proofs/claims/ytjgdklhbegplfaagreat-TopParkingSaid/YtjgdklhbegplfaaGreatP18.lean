/-
  Walks: the fares of the ride of the example.
-/
import Derived.Test.YtjgdklhbegplfaaGreatP12
set_option linter.all false
namespace Go.Proofs.YtjgdklhbegplfaaGreat
open Go Go.W Go.RowKit

theorem cellsAt_app {w0 w : World} {S : List Nat} {L : List Blk} (H : SH w0 S w L) (i : Nat) {g T : Nat} {vs sp : List Value} (hi : L[i]? = some ⟨g, T, vs ++ sp⟩) : cellsAt w g 0 vs :=
  cellsAt_of _ _ fun j hj => by
    have hm := H.own _ (List.mem_of_getElem? hi)
    have hj2 : (vs ++ sp)[j]? = some vs[j] := by rw [List.getElem?_append_left hj, List.getElem?_eq_getElem hj]
    simp only [World.cell?, hm, Nat.zero_add]
    simpa using hj2
/-- the cell of a pointer -/
structure PtrOne (w : World) (b gb : Nat) : Prop where
  out : w.cell? ⟨b, 0, none⟩ = some (.pointer (some ⟨gb, 0, none⟩))
theorem PtrOne.below {w w' : World} {b gb : Nat} (h : PtrOne w b gb) (hb : Below w.heap.size w w') : PtrOne w' b gb := ⟨cell_below hb h.out⟩
set_option maxRecDepth 20000 in
theorem fareAll (gt gf gl gv b : Nat) (id rd t k : Int) (hi : IdR id rd) (hv : VerR t k) (w0 : World) (hz : PriAt w0 gt gf) (hr : RideW w0 gl) (hw : VerW w0 gv id rd t k) (hcb : cellsAt w0 b 0 (rideC id rd gl)) :
    Calls Tryz.prog 9 #[.agg fleetC.toArray, .agg (priC gt gf).toArray, .slice (some ⟨b, 0, none⟩) 1 1, .slice (some ⟨gv, 0, none⟩) 1 1] w0 fun e w' => ∃ (g c : Nat),
      e = .returned (.tuple #[.slice (some ⟨g, 0, none⟩) 1 c, I 0]) ∧ w'.cell? ⟨g, 3, none⟩ = some (I 100) ∧ Below w0.heap.size w0 w' := by
  have H := SH.refl w0
  have hf25 : funT 25 = true := rfl
  refine Calls.ofWP Tryz.func9 rfl Tryz.results9 Tryz.ntmps9 rfl ?_
  refine WP.seq ?_
  refine WP.region ?_
  refine OPS.box rfl rfl rfl rfl (cA rfl) H ?_
  clear H; intro g4 w H
  refine OPS.box rfl rfl rfl rfl (cA rfl) H ?_
  clear H; intro g5 w H
  refine OPS.box rfl rfl rfl rfl (cS rfl) H ?_
  clear H; intro g7 w H
  refine OPS.val rfl rfl rfl (Ev.asS rfl) ?_
  refine OPS.val rfl rfl rfl (Ev.asI rfl) ?_
  refine OPS.nil ?_
  refine WP.seq ?_
  refine WP.seq ?_
  refine WP.region ?_
  refine OPS.val rfl rfl rfl ((by exact Ev.loadO 2 H rfl (agg_run rfl) (size_run rfl) (by rfl) rfl)) ?_
  refine OPS.val rfl rfl rfl ((by exact Ev.loadO 1 H rfl (agg_run rfl) (size_run rfl) (by rfl) rfl)) ?_
  refine OPS.call (d := some 33) rfl rfl rfl (EvC.func (fun_run rfl)) (fareCheck gt gf w (hz.sh H)) ?_
  rintro _ w ⟨rfl, hb⟩
  refine ⟨_, rfl, ?_⟩
  replace H := H.toBelow hb; clear hb
  refine OPS.val rfl rfl rfl (Ev.asI rfl) ?_
  refine OPS.nil ?_
  refine WP.seq ?_
  refine WP.region ?_
  refine OPS.val rfl rfl rfl (Ev.mvI rfl) ?_
  refine OPS.val rfl rfl rfl (Ev.neq rfl rfl) ?_
  refine OPS.nil ?_
  refine WP.cond rfl (fun hc2 => ?_) (fun hc2 => ?_)
  · refine WP.seq ?_
    cases hc2
  refine WP.skip ?_
  refine WP.seq ?_
  refine WP.seq ?_
  refine WP.region ?_
  refine OPS.val rfl rfl rfl (Ev.mvS rfl) ?_
  refine OPS.call (d := some 38) rfl rfl rfl (EvC.func (fun_run rfl)) (fareRides b gl id rd hi w (hr.sh H) (cellsAt_sh H hcb)) ?_
  rintro _ w ⟨rfl, hb⟩
  refine ⟨_, rfl, ?_⟩
  replace H := H.toBelow hb; clear hb
  refine OPS.val rfl rfl rfl (Ev.asI rfl) ?_
  refine OPS.nil ?_
  refine WP.seq ?_
  refine WP.region ?_
  refine OPS.val rfl rfl rfl (Ev.mvI rfl) ?_
  refine OPS.val rfl rfl rfl (Ev.neq rfl rfl) ?_
  refine OPS.nil ?_
  refine WP.cond rfl (fun hc5 => ?_) (fun hc5 => ?_)
  · refine WP.seq ?_
    cases hc5
  refine WP.skip ?_
  refine WP.seq ?_
  refine WP.seq ?_
  refine WP.region ?_
  refine OPS.val rfl rfl rfl (Ev.load1 (agg_run rfl) rfl (by exact H.ldL 0 rfl _ rfl)) ?_
  refine OPS.call (d := some 43) rfl rfl rfl (EvC.func (fun_run rfl)) (penVerdicts gv id rd t k hi ⟨hv.t0, hv.t1⟩ ⟨hv.k1, hv.k3⟩ w (hw.sh H).out) ?_
  rintro _ w ⟨rfl, hb⟩
  refine ⟨_, rfl, ?_⟩
  replace H := H.toBelow hb; clear hb
  refine OPS.val rfl rfl rfl (Ev.asI rfl) ?_
  refine OPS.nil ?_
  refine WP.seq ?_
  refine WP.region ?_
  refine OPS.val rfl rfl rfl (Ev.mvI rfl) ?_
  refine OPS.val rfl rfl rfl (Ev.neq rfl rfl) ?_
  refine OPS.nil ?_
  refine WP.cond rfl (fun hc8 => ?_) (fun hc8 => ?_)
  · refine WP.seq ?_
    cases hc8
  refine WP.skip ?_
  refine WP.seq ?_
  refine WP.region ?_
  refine OPS.val rfl rfl rfl (Ev.asS rfl) ?_
  refine OPS.nil ?_
  refine WP.seq ?_
  refine WP.seq ?_
  refine WP.region ?_
  refine OPS.val rfl rfl rfl (Ev.mvS rfl) ?_
  refine OPS.val rfl rfl rfl (Ev.len (el_run rfl) rfl) ?_
  refine OPS.val rfl rfl rfl (Ev.mvI rfl) ?_
  refine OPS.nil ?_
  refine WP.block ?_
  refine WP.loop [13, 15, 49, 50, 51, 52, 53, 54, 55, 56, 57, 58, 59, 60] (fun k e w' => ∃ (j : Nat) (S : Option Addr) (c : Nat) (Lo : List Blk), j + k = 1 ∧ e 49 = I j ∧ e 13 = .slice S j c ∧ OwnS S c j (if j = 0 then [] else rideC id rd gl) 51 13 Lo ∧ SH w0 [] w' ([⟨g7, 65, [.slice (some ⟨gv, 0, none⟩) 1 1]⟩, ⟨g5, 63, priC gt gf⟩, ⟨g4, 57, fleetC⟩] ++ Lo)) (1) (⟨0, none, 0, [], rfl, rfl, rfl, OwnS.nil, H⟩) ?_
  clear H
  rintro kk u w ⟨j, S, c, Lo, hk, h49, h13, hO, H⟩
  refine WP.know (t := 49) h49 (WP.know (t := 13) h13 ?_)
  simp only [List.cons_append, List.nil_append] at H
  refine WP.seq ?_
  refine WP.region ?_
  refine OPS.val rfl rfl rfl (Ev.lss rfl rfl) ?_
  refine OPS.nil ?_
  refine WP.seq ?_
  refine WP.cond rfl (fun hc12 => ?_) (fun hc12 => ?_)
  · obtain rfl : j = 0 := by simp at hc12; omega
    rw [if_pos rfl] at hO
    have hzz := cellsAt_sh H hcb
    refine WP.skip ?_
    refine WP.seq ?_
    refine WP.block ?_
    refine WP.seq ?_
    refine WP.region ?_
    refine OPS.val rfl rfl rfl ((by exact Ev.indexAddr (el_run rfl) (size_run rfl) rfl rfl rfl (by omega))) ?_
    refine OPS.val rfl rfl rfl ((by (change Ev _ _ _ _ (Op.load 51 (Operand.tmp 51)) _; exact Ev.loadN (rideC id rd gl) (agg_run rfl) (size_run rfl) rfl hzz))) ?_
    refine OPS.alloc rfl rfl rfl rfl (zero_run rfl) rfl H ?_
    clear H; intro g15 w H
    refine OPS.store 0 _ rfl rfl rfl (size_run rfl) rfl (cA rfl) rfl rfl H rfl (by simp) ?_
    clear H; intro w H; try simp only [List.set_cons_zero, List.set_cons_succ, putL, Nat.zero_add] at H
    refine OPS.nil ?_
    refine WP.seq ?_
    refine WP.region ?_
    refine OPS.val rfl rfl rfl (Ev.fieldAddr (fld_run rfl) rfl) ?_
    refine OPS.val rfl rfl rfl (Ev.load1 (agg_run rfl) rfl (by exact H.ldL 0 rfl _ rfl)) ?_
    refine OPS.val rfl rfl rfl (Ev.not rfl) ?_
    refine OPS.nil ?_
    refine WP.cond rfl (fun hc14 => ?_) (fun hc14 => ?_)
    · refine WP.region ?_
      refine OPS.val rfl rfl rfl (Ev.mvS rfl) ?_
      refine OPS.val rfl rfl rfl ((by exact Ev.loadO 0 H rfl (agg_run rfl) (size_run rfl) (by rfl) rfl)) ?_
      refine OPS.buildSlice rfl rfl rfl rfl (bsl_64_1_0 rfl) H ?_
      clear H; intro g58 w H
      refine OPS.append (m := 1) (news := rideC id rd gl) (R := [⟨g58, 51, rideC id rd gl⟩, ⟨g15, 51, rideC id rd gl⟩, ⟨g7, 65, [.slice (some ⟨gv, 0, none⟩) 1 1]⟩, ⟨g5, 63, priC gt gf⟩, ⟨g4, 57, fleetC⟩]) rfl rfl rfl rfl rfl (sl_run rfl) rfl rfl hO rfl (src_own H 0 rfl) rfl (by omega) (by unfold maxLen; omega) H (List.Perm.refl _) ?_
      clear H hO; intro S c Lo w hO H
      refine OPS.val rfl rfl rfl (Ev.asS rfl) ?_
      refine OPS.nil ?_
      refine WP.region ?_
      refine OPS.val rfl rfl rfl (Ev.add rfl rfl (by unfold fits; omega)) ?_
      refine OPS.val rfl rfl rfl (Ev.mvI rfl) ?_
      refine OPS.nil ?_
      first
        | exact ⟨(by repeat (first | exact Agree.refl _ _ | exact Agree.mix _ _ _ | refine Agree.upd rfl ?_ | refine Agree.mix2 rfl ?_)), 0, by omega, 1, S, c, Lo, rfl, rfl, rfl, hO, H.drop ((List.sublist_cons_self _ _).trans (List.sublist_cons_self _ _))⟩
        | (exfalso; simp at hc14)
    refine WP.skip ?_
    refine WP.region ?_
    refine OPS.val rfl rfl rfl (Ev.add rfl rfl (by unfold fits; omega)) ?_
    refine OPS.val rfl rfl rfl (Ev.mvI rfl) ?_
    refine OPS.nil ?_
    first
      | exact ⟨(by repeat (first | exact Agree.refl _ _ | exact Agree.mix _ _ _ | refine Agree.upd rfl ?_ | refine Agree.mix2 rfl ?_)), 0, by omega, 1, S, c, Lo, rfl, rfl, rfl, hO, H.drop ((List.sublist_cons_self _ _).trans (List.sublist_cons_self _ _))⟩
      | (exfalso; simp at hc14)
  obtain rfl : j = 1 := by simp at hc12; omega
  rw [if_neg (by omega)] at hO
  rcases hO.form with ⟨_, h1, _⟩ | ⟨gc, sp, rfl, rfl, hO1, hO2, hO3⟩
  · exact absurd h1 (by omega)
  replace H := H.rx (L' := [⟨gc, 51, rideC id rd gl ++ sp⟩, ⟨g7, 65, [.slice (some ⟨gv, 0, none⟩) 1 1]⟩, ⟨g5, 63, priC gt gf⟩]) [3, 0, 1]
  refine WP.exit ?_
  refine XB.hit ?_
  refine WP.seq ?_
  refine WP.region ?_
  refine OPS.val rfl rfl rfl (Ev.mvS rfl) ?_
  refine OPS.call (d := some 62) rfl rfl rfl (EvC.func (fun_run rfl)) (srtRide (some ⟨gc, 0, none⟩) 1 c (by omega) _ _ _ w) ?_
  rintro _ w ⟨rfl, hb⟩
  refine ⟨_, rfl, ?_⟩
  replace H := H.toBelow hb; clear hb
  refine OPS.nil ?_
  refine WP.seq ?_
  refine WP.region ?_
  refine OPS.val rfl rfl rfl (Ev.fieldAddr (fld_run rfl) rfl) ?_
  refine OPS.val rfl rfl rfl (Ev.load1 (agg_run rfl) rfl (by exact H.ldL 2 rfl _ rfl)) ?_
  refine OPS.val rfl rfl rfl (Ev.mvS rfl) ?_
  refine OPS.call (d := some 67) rfl rfl rfl (EvC.func (fun_run rfl)) (passUse gc gl c id rd hi w (hr.sh H) (cellsAt_app H 0 rfl)) ?_
  rintro _ w ⟨gu, rfl, Hc⟩
  refine ⟨_, rfl, ?_⟩
  replace H := SH.call (Lv := []) (by rw [List.append_nil]; exact H) Hc
  clear Hc
  simp only [List.cons_append, List.nil_append] at H
  refine OPS.val rfl rfl rfl (Ev.mvT rfl) ?_
  refine OPS.val rfl rfl rfl (Ev.extract rfl rfl) ?_
  refine OPS.val rfl rfl rfl (Ev.extract rfl rfl) ?_
  refine OPS.val rfl rfl rfl (Ev.asS rfl) ?_
  refine OPS.val rfl rfl rfl (Ev.asI rfl) ?_
  refine OPS.nil ?_
  refine WP.seq ?_
  refine WP.seq ?_
  refine WP.region ?_
  refine OPS.val rfl rfl rfl (Ev.mvI rfl) ?_
  refine OPS.val rfl rfl rfl (Ev.neq rfl rfl) ?_
  refine OPS.nil ?_
  refine WP.cond rfl (fun hc19 => ?_) (fun hc19 => ?_)
  · refine WP.seq ?_
    cases hc19
  refine WP.skip ?_
  refine WP.seq ?_
  refine WP.region ?_
  refine OPS.val rfl rfl rfl (Ev.asS rfl) ?_
  refine OPS.nil ?_
  refine WP.seq ?_
  refine WP.region ?_
  refine OPS.val rfl rfl rfl (Ev.asS rfl) ?_
  refine OPS.val rfl rfl rfl (Ev.asS rfl) ?_
  refine OPS.val rfl rfl rfl (Ev.asS rfl) ?_
  refine OPS.nil ?_
  refine WP.seq ?_
  refine WP.seq ?_
  refine WP.region ?_
  refine OPS.val rfl rfl rfl (Ev.mvS rfl) ?_
  refine OPS.val rfl rfl rfl (Ev.len (el_run rfl) rfl) ?_
  refine OPS.val rfl rfl rfl (Ev.mvI rfl) ?_
  refine OPS.nil ?_
  refine WP.block ?_
  refine WP.loop [8, 9, 18, 19, 20, 21, 22, 23, 24, 25, 75, 76, 77, 78, 79, 80, 81, 82, 83, 84, 85, 86, 87, 88, 89, 90, 91, 92, 93, 94, 95, 96, 97, 98, 99, 100, 101, 102, 103, 104, 105, 106, 107, 108, 109, 110, 111, 112, 113, 114, 115, 116, 117] (fun k e w' => ∃ j : Nat, j + k = 1 ∧ e 75 = I j ∧ ((j = 0 ∧ e 18 = S0 ∧ e 19 = S0 ∧ e 20 = S0 ∧ e 21 = S0 ∧ SH w0 [] w' [⟨gc, 51, rideC id rd gl ++ sp⟩, ⟨g7, 65, [.slice (some ⟨gv, 0, none⟩) 1 1]⟩, ⟨g5, 63, priC gt gf⟩, ⟨gu, 3, [I (-1)]⟩]) ∨ (j = 1 ∧ ∃ gb SI cI bB cB sp2 b1 c1 b2 c2 b3 c3, e 18 = .slice (some ⟨bB, 0, none⟩) 1 cB ∧ e 19 = .slice (some ⟨b1, 0, none⟩) 1 c1 ∧ e 20 = .slice (some ⟨b2, 0, none⟩) 1 c2 ∧ e 21 = .slice (some ⟨b3, 0, none⟩) 1 c3 ∧ One w' b1 rd ∧ One w' b2 0 ∧ One w' b3 100 ∧ SH w0 [] w' [⟨gb, 92, bilC id rd SI 1 cI 100⟩, ⟨bB, 88, .pointer (some ⟨gb, 0, none⟩) :: sp2⟩, ⟨gc, 51, rideC id rd gl ++ sp⟩, ⟨g7, 65, [.slice (some ⟨gv, 0, none⟩) 1 1]⟩, ⟨g5, 63, priC gt gf⟩, ⟨gu, 3, [I (-1)]⟩]))) (1) (⟨0, rfl, rfl, .inl ⟨rfl, rfl, rfl, rfl, rfl, H⟩⟩) ?_
  clear H
  rintro kk u w ⟨j, hk, h75, hst⟩
  refine WP.know (t := 75) h75 ?_
  refine WP.seq ?_
  refine WP.region ?_
  refine OPS.val rfl rfl rfl (Ev.lss rfl rfl) ?_
  refine OPS.nil ?_
  refine WP.seq ?_
  refine WP.cond rfl (fun hc24 => ?_) (fun hc24 => ?_)
  · obtain rfl : j = 0 := by simp at hc24; omega
    obtain ⟨_, h18, h19, h20, h21, H⟩ := hst.resolve_right (fun h => absurd h.1 (by omega))
    refine WP.know (t := 18) h18 (WP.know (t := 19) h19 (WP.know (t := 20) h20 (WP.know (t := 21) h21 ?_)))
    refine WP.skip ?_
    refine WP.seq ?_
    refine WP.block ?_
    refine WP.seq ?_
    refine WP.region ?_
    refine OPS.val rfl rfl rfl (Ev.mvI rfl) ?_
    refine OPS.val rfl rfl rfl ((by exact Ev.indexAddr (el_run rfl) (size_run rfl) rfl rfl rfl (by omega))) ?_
    refine OPS.val rfl rfl rfl ((by (change Ev _ _ _ _ (Op.load 51 (Operand.tmp 78)) _; exact Ev.loadN (rideC id rd gl) (agg_run rfl) (size_run rfl) rfl (cellsAt_app H 0 rfl)))) ?_
    refine OPS.alloc rfl rfl rfl rfl (zero_run rfl) rfl H ?_
    clear H; intro g23 w H
    refine OPS.val rfl rfl rfl (Ev.asI rfl) ?_
    refine OPS.store 0 _ rfl rfl rfl (size_run rfl) rfl (cA rfl) rfl rfl H rfl (by simp) ?_
    clear H; intro w H; try simp only [List.set_cons_zero, List.set_cons_succ, putL, Nat.zero_add] at H
    refine OPS.nil ?_
    refine WP.seq ?_
    refine WP.rheldC [24, 25, 80, 81, 82, 83, 84, 85, 86, 87, 88, 89] (fun u w' => ∃ gb SI cI, u 24 = .pointer (some ⟨gb, 0, none⟩) ∧ u 25 = I 0 ∧ SH w0 [] w' [⟨gb, 92, bilC id rd SI 1 cI 100⟩, ⟨g23, 51, rideC id rd gl⟩, ⟨gc, 51, rideC id rd gl ++ sp⟩, ⟨g7, 65, [.slice (some ⟨gv, 0, none⟩) 1 1]⟩, ⟨g5, 63, priC gt gf⟩, ⟨gu, 3, [I (-1)]⟩]) mixed H ?_ ?_
    · clear H; intro w hbw26 H
      refine OPH.take 0 rfl rfl rfl rfl (by kernel_rfl) (by kernel_rfl) (by kernel_rfl) rfl (by exact H) (fun w H => (by exact Ev.loadO 3 H rfl (agg_run rfl) (size_run rfl) (by rfl) rfl)) ?_
      refine OPH.take 1 rfl rfl rfl rfl (by kernel_rfl) (by kernel_rfl) (by kernel_rfl) rfl (by exact H) (fun w H => (by exact Ev.loadO 0 H rfl (agg_run rfl) (size_run rfl) (by rfl) rfl)) ?_
      refine OPH.take 2 rfl rfl rfl rfl (by kernel_rfl) (by kernel_rfl) (by kernel_rfl) rfl (by exact H) (fun w H => Ev.mvS rfl) ?_
      refine OPH.take 3 rfl rfl rfl rfl (by kernel_rfl) (by kernel_rfl) (by kernel_rfl) rfl (by exact H) (fun w H => Ev.mvI rfl) ?_
      refine OPH.take 4 rfl rfl rfl rfl (by kernel_rfl) (by kernel_rfl) (by kernel_rfl) rfl (by exact H) (fun w H => (by exact Ev.indexAddr1 (el_run rfl) (size_run rfl) rfl rfl rfl (by omega))) ?_
      refine OPH.take 5 rfl rfl rfl rfl (by kernel_rfl) (by kernel_rfl) (by kernel_rfl) rfl (by exact H) (fun w H => Ev.load1 (agg_run rfl) rfl (by exact H.ldL 4 rfl _ rfl)) ?_
      refine OPH.all [6] (by kernel_rfl) (by simp) rfl ?_
      intro i hi; simp only [List.mem_cons, List.not_mem_nil, or_false] at hi
      rcases hi with rfl
      · refine ⟨_, rfl, ?_⟩
        refine OPS.call (d := some 87) rfl rfl rfl (EvC.conv (EvC.func (fun_run rfl)) rfl) (fareFirst gt gf gl id rd hi w (hz.sh H) (hr.sh H)) ?_
        rintro _ w ⟨gb, SI, cI, LoI, rfl, Hc⟩; refine ⟨_, rfl, ?_⟩
        have E1 := SH.call (Lv := []) (by rw [List.append_nil]; exact H) Hc
        have E2 := E1.rx (L' := [⟨gb, 92, bilC id rd SI 1 cI 100⟩, ⟨g23, 51, rideC id rd gl⟩, ⟨gc, 51, rideC id rd gl ++ sp⟩, ⟨g7, 65, [.slice (some ⟨gv, 0, none⟩) 1 1]⟩, ⟨g5, 63, priC gt gf⟩, ⟨gu, 3, [I (-1)]⟩]) [5, 0, 1, 2, 3, 4]
        clear H
        have H := E2.drop (List.sublist_cons_self _ _)
        refine OPS.nil ?_
        refine ⟨(by exact H), ?_⟩
        refine OPH.take 7 rfl rfl rfl rfl (by kernel_rfl) (by kernel_rfl) (by kernel_rfl) rfl (by exact H) (fun w H => Ev.mvT rfl) ?_
        refine OPH.take 8 rfl rfl rfl rfl (by kernel_rfl) (by kernel_rfl) (by kernel_rfl) rfl (by exact H) (fun w H => Ev.extract rfl rfl) ?_
        refine OPH.take 9 rfl rfl rfl rfl (by kernel_rfl) (by kernel_rfl) (by kernel_rfl) rfl (by exact H) (fun w H => Ev.extract rfl rfl) ?_
        refine OPH.take 10 rfl rfl rfl rfl (by kernel_rfl) (by kernel_rfl) (by kernel_rfl) rfl (by exact H) (fun w H => Ev.asP rfl) ?_
        refine OPH.take 11 rfl rfl rfl rfl (by kernel_rfl) (by kernel_rfl) (by kernel_rfl) rfl (by exact H) (fun w H => Ev.asI rfl) ?_
        refine OPH.done (by kernel_rfl) ?_
        exact ⟨(by repeat (first | exact Agree.refl _ _ | exact Agree.mix _ _ _ | refine Agree.upd rfl ?_ | refine Agree.mix2 rfl ?_)), gb, SI, cI, rfl, rfl, E2⟩
    clear H
    rintro u w ⟨gb, SI, cI, h24, h25, H⟩
    refine WP.know (t := 24) h24 (WP.know (t := 25) h25 ?_)
    refine WP.seq ?_
    refine WP.seq ?_
    refine WP.region ?_
    refine OPS.val rfl rfl rfl (Ev.mvI rfl) ?_
    refine OPS.val rfl rfl rfl (Ev.neq rfl rfl) ?_
    refine OPS.nil ?_
    refine WP.cond rfl (fun hc27 => ?_) (fun hc27 => ?_)
    · refine WP.seq ?_
      cases hc27
    refine WP.skip ?_
    refine WP.seq ?_
    refine WP.region ?_
    refine OPS.val rfl rfl rfl (Ev.mvS rfl) ?_
    refine OPS.val rfl rfl rfl (Ev.mvP rfl) ?_
    refine OPS.buildSlice rfl rfl rfl rfl (bsl_87_1_0 rfl) H ?_
    clear H; intro g95 w H
    refine OPS.append (m := 1) (news := [.pointer (some ⟨gb, 0, none⟩)]) (R := [⟨g95, 88, [.pointer (some ⟨gb, 0, none⟩)]⟩, ⟨gb, 92, bilC id rd SI 1 cI 100⟩, ⟨g23, 51, rideC id rd gl⟩, ⟨gc, 51, rideC id rd gl ++ sp⟩, ⟨g7, 65, [.slice (some ⟨gv, 0, none⟩) 1 1]⟩, ⟨g5, 63, priC gt gf⟩, ⟨gu, 3, [I (-1)]⟩]) rfl rfl rfl rfl rfl (sl_run rfl) rfl rfl OwnS.nil rfl (src_own H 0 rfl) rfl (by omega) (by unfold maxLen; omega) H (by simp) ?_
    clear H; intro SB cB LB w hOB H
    rcases hOB.form with ⟨_, h1, _⟩ | ⟨bB, sp2, rfl, rfl, _⟩
    · exact absurd h1 (by omega)
    replace H := H.rx (L' := [⟨gb, 92, bilC id rd SI 1 cI 100⟩, ⟨bB, 88, .pointer (some ⟨gb, 0, none⟩) :: sp2⟩, ⟨g23, 51, rideC id rd gl⟩, ⟨gc, 51, rideC id rd gl ++ sp⟩, ⟨g7, 65, [.slice (some ⟨gv, 0, none⟩) 1 1]⟩, ⟨g5, 63, priC gt gf⟩, ⟨gu, 3, [I (-1)]⟩]) [1, 7, 2, 3, 4, 5, 6]
    refine OPS.val rfl rfl rfl (Ev.asS rfl) ?_
    refine OPS.nil ?_
    refine WP.rheldC [19, 20, 21, 97, 98, 99, 100, 101, 102, 103, 104, 105, 106, 107, 108, 109, 110, 111, 112, 113, 114, 115, 116] (fun u w' => ∃ b1 c1 b2 c2 b3 c3, u 19 = .slice (some ⟨b1, 0, none⟩) 1 c1 ∧ u 20 = .slice (some ⟨b2, 0, none⟩) 1 c2 ∧ u 21 = .slice (some ⟨b3, 0, none⟩) 1 c3 ∧ One w' b1 rd ∧ One w' b2 0 ∧ One w' b3 100 ∧ SH w0 [] w' [⟨gb, 92, bilC id rd SI 1 cI 100⟩, ⟨bB, 88, .pointer (some ⟨gb, 0, none⟩) :: sp2⟩, ⟨g23, 51, rideC id rd gl⟩, ⟨gc, 51, rideC id rd gl ++ sp⟩, ⟨g7, 65, [.slice (some ⟨gv, 0, none⟩) 1 1]⟩, ⟨g5, 63, priC gt gf⟩, ⟨gu, 3, [I (-1)]⟩]) mixed H ?_ ?_
    · clear H; intro w hbw30 H
      refine OPH.take 0 rfl rfl rfl rfl (by kernel_rfl) (by kernel_rfl) (by kernel_rfl) rfl (by exact H) (fun w H => Ev.mvS rfl) ?_
      refine OPH.take 1 rfl rfl rfl rfl (by kernel_rfl) (by kernel_rfl) (by kernel_rfl) rfl (by exact H) (fun w H => Ev.fieldAddr (fld_run rfl) rfl) ?_
      refine OPH.take 2 rfl rfl rfl rfl (by kernel_rfl) (by kernel_rfl) (by kernel_rfl) rfl (by exact H) (fun w H => Ev.load1 (agg_run rfl) rfl (by exact H.ldL 2 rfl _ rfl)) ?_
      refine OPH.take 5 rfl rfl rfl rfl (by kernel_rfl) (by kernel_rfl) (by kernel_rfl) rfl (by exact H) (fun w H => Ev.mvS rfl) ?_
      refine OPH.take 6 rfl rfl rfl rfl (by kernel_rfl) (by kernel_rfl) (by kernel_rfl) rfl (by exact H) (fun w H => Ev.fieldAddr (fld_run rfl) rfl) ?_
      refine OPH.take 7 rfl rfl rfl rfl (by kernel_rfl) (by kernel_rfl) (by kernel_rfl) rfl (by exact H) (fun w H => Ev.fieldAddr (fld_run rfl) rfl) ?_
      refine OPH.take 8 rfl rfl rfl rfl (by kernel_rfl) (by kernel_rfl) (by kernel_rfl) rfl (by exact H) (fun w H => Ev.load1 (agg_run rfl) rfl (by exact H.ldL 2 rfl _ rfl)) ?_
      refine OPH.take 9 rfl rfl rfl rfl (by kernel_rfl) (by kernel_rfl) (by kernel_rfl) rfl (by exact H) (fun w H => Ev.quo rfl rfl (by omega) (by omega) (by omega)) ?_
      refine OPH.take 12 rfl rfl rfl rfl (by kernel_rfl) (by kernel_rfl) (by kernel_rfl) rfl (by exact H) (fun w H => Ev.mvS rfl) ?_
      refine OPH.take 13 rfl rfl rfl rfl (by kernel_rfl) (by kernel_rfl) (by kernel_rfl) rfl (by exact H) (fun w H => Ev.mvP rfl) ?_
      refine OPH.take 14 rfl rfl rfl rfl (by kernel_rfl) (by kernel_rfl) (by kernel_rfl) rfl (by exact H) (fun w H => (by exact Ev.nilCheckP rfl)) ?_
      refine OPH.take 15 rfl rfl rfl rfl (by kernel_rfl) (by kernel_rfl) (by kernel_rfl) rfl (by exact H) (fun w H => Ev.fieldAddr (fld_run rfl) rfl) ?_
      refine OPH.take 16 rfl rfl rfl rfl (by kernel_rfl) (by kernel_rfl) (by kernel_rfl) rfl (by exact H) (fun w H => Ev.fieldAddr (fld_run rfl) rfl) ?_
      refine OPH.take 17 rfl rfl rfl rfl (by kernel_rfl) (by kernel_rfl) (by kernel_rfl) rfl (by exact H) (fun w H => Ev.load1 (agg_run rfl) rfl (by exact H.ldL 0 rfl _ rfl)) ?_
      refine OPH.all [3, 10, 18] (by kernel_rfl) (by simp) rfl ?_
      intro i hi; simp only [List.mem_cons, List.not_mem_nil, or_false] at hi
      rcases hi with rfl | rfl | rfl
      · refine ⟨_, rfl, ?_⟩
        refine OPS.buildSliceB rfl rfl rfl rfl (bsl_55_1_0 rfl) H ?_
        clear H; intro x1 w hb E
        have o1 : One w x1 rd := ⟨E.ldL 0 rfl 0 rfl⟩
        have H := E.drop (List.sublist_cons_self _ _)
        clear E
        try replace o2 := One.below o2 hb
        try replace q2 := One.below q2 hb
        try replace o3 := One.below o3 hb
        try replace q3 := One.below q3 hb
        clear hb
        refine OPS.nil ?_
        refine ⟨(by exact H), ?_⟩
        refine OPH.all [4, 10, 18] (by kernel_rfl) (by simp) rfl ?_
        intro i hi; simp only [List.mem_cons, List.not_mem_nil, or_false] at hi
        rcases hi with rfl | rfl | rfl
        · refine ⟨_, rfl, ?_⟩
          refine OPS.appendNil (m := 1) (v := I rd) (l := []) rfl rfl rfl rfl rfl (sl_run rfl) rfl rfl rfl ⟨x1, 0, rfl, o1.out, trivial⟩ rfl (by omega) (by unfold maxLen; omega) ?_
          intro b1 c1 w hb hc
          have q1 : One w b1 rd := ⟨hc.1⟩
          replace H := H.toBelow hb
          try replace o2 := One.below o2 hb
          try replace q2 := One.below q2 hb
          try replace o3 := One.below o3 hb
          try replace q3 := One.below q3 hb
          clear hb hc
          refine OPS.nil ?_
          refine ⟨(by exact H), ?_⟩
          refine OPH.all [10, 18] (by kernel_rfl) (by simp) rfl ?_
          intro i hi; simp only [List.mem_cons, List.not_mem_nil, or_false] at hi
          rcases hi with rfl | rfl
          · refine ⟨_, rfl, ?_⟩
            refine OPS.buildSliceB rfl rfl rfl rfl (bsl_55_1_0 rfl) H ?_
            clear H; intro x2 w hb E
            have o2 : One w x2 0 := ⟨E.ldL 0 rfl 0 rfl⟩
            have H := E.drop (List.sublist_cons_self _ _)
            clear E
            try replace o1 := One.below o1 hb
            try replace q1 := One.below q1 hb
            try replace o3 := One.below o3 hb
            try replace q3 := One.below q3 hb
            clear hb
            refine OPS.nil ?_
            refine ⟨(by exact H), ?_⟩
            refine OPH.all [11, 18] (by kernel_rfl) (by simp) rfl ?_
            intro i hi; simp only [List.mem_cons, List.not_mem_nil, or_false] at hi
            rcases hi with rfl | rfl
            · refine ⟨_, rfl, ?_⟩
              refine OPS.appendNil (m := 1) (v := I 0) (l := []) rfl rfl rfl rfl rfl (sl_run rfl) rfl rfl rfl ⟨x2, 0, rfl, o2.out, trivial⟩ rfl (by omega) (by unfold maxLen; omega) ?_
              intro b2 c2 w hb hc
              have q2 : One w b2 0 := ⟨hc.1⟩
              replace H := H.toBelow hb
              try replace o1 := One.below o1 hb
              try replace q1 := One.below q1 hb
              try replace o3 := One.below o3 hb
              try replace q3 := One.below q3 hb
              clear hb hc
              refine OPS.nil ?_
              refine ⟨(by exact H), ?_⟩
              refine OPH.all [18] (by kernel_rfl) (by simp) rfl ?_
              intro i hi; simp only [List.mem_cons, List.not_mem_nil, or_false] at hi
              rcases hi with rfl
              · refine ⟨_, rfl, ?_⟩
                refine OPS.buildSliceB rfl rfl rfl rfl (bsl_55_1_0 rfl) H ?_
                clear H; intro x3 w hb E
                have o3 : One w x3 100 := ⟨E.ldL 0 rfl 0 rfl⟩
                have H := E.drop (List.sublist_cons_self _ _)
                clear E
                try replace o1 := One.below o1 hb
                try replace q1 := One.below q1 hb
                try replace o2 := One.below o2 hb
                try replace q2 := One.below q2 hb
                clear hb
                refine OPS.nil ?_
                refine ⟨(by exact H), ?_⟩
                refine OPH.all [19] (by kernel_rfl) (by simp) rfl ?_
                intro i hi; simp only [List.mem_cons, List.not_mem_nil, or_false] at hi
                rcases hi with rfl
                · refine ⟨_, rfl, ?_⟩
                  refine OPS.appendNil (m := 1) (v := I 100) (l := []) rfl rfl rfl rfl rfl (sl_run rfl) rfl rfl rfl ⟨x3, 0, rfl, o3.out, trivial⟩ rfl (by omega) (by unfold maxLen; omega) ?_
                  intro b3 c3 w hb hc
                  have q3 : One w b3 100 := ⟨hc.1⟩
                  replace H := H.toBelow hb
                  try replace o1 := One.below o1 hb
                  try replace q1 := One.below q1 hb
                  try replace o2 := One.below o2 hb
                  try replace q2 := One.below q2 hb
                  clear hb hc
                  refine OPS.nil ?_
                  refine ⟨(by exact H), ?_⟩
                  refine OPH.take 20 rfl rfl rfl rfl (by kernel_rfl) (by kernel_rfl) (by kernel_rfl) rfl (by exact H) (fun w H => Ev.asS rfl) ?_
                  refine OPH.take 21 rfl rfl rfl rfl (by kernel_rfl) (by kernel_rfl) (by kernel_rfl) rfl (by exact H) (fun w H => Ev.asS rfl) ?_
                  refine OPH.take 22 rfl rfl rfl rfl (by kernel_rfl) (by kernel_rfl) (by kernel_rfl) rfl (by exact H) (fun w H => Ev.asS rfl) ?_
                  refine OPH.done (by kernel_rfl) ?_
                  exact ⟨(by repeat (first | exact Agree.refl _ _ | exact Agree.mix _ _ _ | refine Agree.upd rfl ?_ | refine Agree.mix2 rfl ?_)), b1, c1, b2, c2, b3, c3, rfl, rfl, rfl, q1, q2, q3, H⟩
            · refine ⟨_, rfl, ?_⟩
              refine OPS.buildSliceB rfl rfl rfl rfl (bsl_55_1_0 rfl) H ?_
              clear H; intro x3 w hb E
              have o3 : One w x3 100 := ⟨E.ldL 0 rfl 0 rfl⟩
              have H := E.drop (List.sublist_cons_self _ _)
              clear E
              try replace o1 := One.below o1 hb
              try replace q1 := One.below q1 hb
              try replace o2 := One.below o2 hb
              try replace q2 := One.below q2 hb
              clear hb
              refine OPS.nil ?_
              refine ⟨(by exact H), ?_⟩
              refine OPH.all [11] (by kernel_rfl) (by simp) rfl ?_
              intro i hi; simp only [List.mem_cons, List.not_mem_nil, or_false] at hi
              rcases hi with rfl
              · refine ⟨_, rfl, ?_⟩
                refine OPS.appendNil (m := 1) (v := I 0) (l := []) rfl rfl rfl rfl rfl (sl_run rfl) rfl rfl rfl ⟨x2, 0, rfl, o2.out, trivial⟩ rfl (by omega) (by unfold maxLen; omega) ?_
                intro b2 c2 w hb hc
                have q2 : One w b2 0 := ⟨hc.1⟩
                replace H := H.toBelow hb
                try replace o1 := One.below o1 hb
                try replace q1 := One.below q1 hb
                try replace o3 := One.below o3 hb
                try replace q3 := One.below q3 hb
                clear hb hc
                refine OPS.nil ?_
                refine ⟨(by exact H), ?_⟩
                refine OPH.all [19] (by kernel_rfl) (by simp) rfl ?_
                intro i hi; simp only [List.mem_cons, List.not_mem_nil, or_false] at hi
                rcases hi with rfl
                · refine ⟨_, rfl, ?_⟩
                  refine OPS.appendNil (m := 1) (v := I 100) (l := []) rfl rfl rfl rfl rfl (sl_run rfl) rfl rfl rfl ⟨x3, 0, rfl, o3.out, trivial⟩ rfl (by omega) (by unfold maxLen; omega) ?_
                  intro b3 c3 w hb hc
                  have q3 : One w b3 100 := ⟨hc.1⟩
                  replace H := H.toBelow hb
                  try replace o1 := One.below o1 hb
                  try replace q1 := One.below q1 hb
                  try replace o2 := One.below o2 hb
                  try replace q2 := One.below q2 hb
                  clear hb hc
                  refine OPS.nil ?_
                  refine ⟨(by exact H), ?_⟩
                  refine OPH.take 20 rfl rfl rfl rfl (by kernel_rfl) (by kernel_rfl) (by kernel_rfl) rfl (by exact H) (fun w H => Ev.asS rfl) ?_
                  refine OPH.take 21 rfl rfl rfl rfl (by kernel_rfl) (by kernel_rfl) (by kernel_rfl) rfl (by exact H) (fun w H => Ev.asS rfl) ?_
                  refine OPH.take 22 rfl rfl rfl rfl (by kernel_rfl) (by kernel_rfl) (by kernel_rfl) rfl (by exact H) (fun w H => Ev.asS rfl) ?_
                  refine OPH.done (by kernel_rfl) ?_
                  exact ⟨(by repeat (first | exact Agree.refl _ _ | exact Agree.mix _ _ _ | refine Agree.upd rfl ?_ | refine Agree.mix2 rfl ?_)), b1, c1, b2, c2, b3, c3, rfl, rfl, rfl, q1, q2, q3, H⟩
          · refine ⟨_, rfl, ?_⟩
            refine OPS.buildSliceB rfl rfl rfl rfl (bsl_55_1_0 rfl) H ?_
            clear H; intro x3 w hb E
            have o3 : One w x3 100 := ⟨E.ldL 0 rfl 0 rfl⟩
            have H := E.drop (List.sublist_cons_self _ _)
            clear E
            try replace o1 := One.below o1 hb
            try replace q1 := One.below q1 hb
            try replace o2 := One.below o2 hb
            try replace q2 := One.below q2 hb
            clear hb
            refine OPS.nil ?_
            refine ⟨(by exact H), ?_⟩
            refine OPH.all [10] (by kernel_rfl) (by simp) rfl ?_
            intro i hi; simp only [List.mem_cons, List.not_mem_nil, or_false] at hi
            rcases hi with rfl
            · refine ⟨_, rfl, ?_⟩
              refine OPS.buildSliceB rfl rfl rfl rfl (bsl_55_1_0 rfl) H ?_
              clear H; intro x2 w hb E
              have o2 : One w x2 0 := ⟨E.ldL 0 rfl 0 rfl⟩
              have H := E.drop (List.sublist_cons_self _ _)
              clear E
              try replace o1 := One.below o1 hb
              try replace q1 := One.below q1 hb
              try replace o3 := One.below o3 hb
              try replace q3 := One.below q3 hb
              clear hb
              refine OPS.nil ?_
              refine ⟨(by exact H), ?_⟩
              refine OPH.all [11] (by kernel_rfl) (by simp) rfl ?_
              intro i hi; simp only [List.mem_cons, List.not_mem_nil, or_false] at hi
              rcases hi with rfl
              · refine ⟨_, rfl, ?_⟩
                refine OPS.appendNil (m := 1) (v := I 0) (l := []) rfl rfl rfl rfl rfl (sl_run rfl) rfl rfl rfl ⟨x2, 0, rfl, o2.out, trivial⟩ rfl (by omega) (by unfold maxLen; omega) ?_
                intro b2 c2 w hb hc
                have q2 : One w b2 0 := ⟨hc.1⟩
                replace H := H.toBelow hb
                try replace o1 := One.below o1 hb
                try replace q1 := One.below q1 hb
                try replace o3 := One.below o3 hb
                try replace q3 := One.below q3 hb
                clear hb hc
                refine OPS.nil ?_
                refine ⟨(by exact H), ?_⟩
                refine OPH.all [19] (by kernel_rfl) (by simp) rfl ?_
                intro i hi; simp only [List.mem_cons, List.not_mem_nil, or_false] at hi
                rcases hi with rfl
                · refine ⟨_, rfl, ?_⟩
                  refine OPS.appendNil (m := 1) (v := I 100) (l := []) rfl rfl rfl rfl rfl (sl_run rfl) rfl rfl rfl ⟨x3, 0, rfl, o3.out, trivial⟩ rfl (by omega) (by unfold maxLen; omega) ?_
                  intro b3 c3 w hb hc
                  have q3 : One w b3 100 := ⟨hc.1⟩
                  replace H := H.toBelow hb
                  try replace o1 := One.below o1 hb
                  try replace q1 := One.below q1 hb
                  try replace o2 := One.below o2 hb
                  try replace q2 := One.below q2 hb
                  clear hb hc
                  refine OPS.nil ?_
                  refine ⟨(by exact H), ?_⟩
                  refine OPH.take 20 rfl rfl rfl rfl (by kernel_rfl) (by kernel_rfl) (by kernel_rfl) rfl (by exact H) (fun w H => Ev.asS rfl) ?_
                  refine OPH.take 21 rfl rfl rfl rfl (by kernel_rfl) (by kernel_rfl) (by kernel_rfl) rfl (by exact H) (fun w H => Ev.asS rfl) ?_
                  refine OPH.take 22 rfl rfl rfl rfl (by kernel_rfl) (by kernel_rfl) (by kernel_rfl) rfl (by exact H) (fun w H => Ev.asS rfl) ?_
                  refine OPH.done (by kernel_rfl) ?_
                  exact ⟨(by repeat (first | exact Agree.refl _ _ | exact Agree.mix _ _ _ | refine Agree.upd rfl ?_ | refine Agree.mix2 rfl ?_)), b1, c1, b2, c2, b3, c3, rfl, rfl, rfl, q1, q2, q3, H⟩
        · refine ⟨_, rfl, ?_⟩
          refine OPS.buildSliceB rfl rfl rfl rfl (bsl_55_1_0 rfl) H ?_
          clear H; intro x2 w hb E
          have o2 : One w x2 0 := ⟨E.ldL 0 rfl 0 rfl⟩
          have H := E.drop (List.sublist_cons_self _ _)
          clear E
          try replace o1 := One.below o1 hb
          try replace q1 := One.below q1 hb
          try replace o3 := One.below o3 hb
          try replace q3 := One.below q3 hb
          clear hb
          refine OPS.nil ?_
          refine ⟨(by exact H), ?_⟩
          refine OPH.all [4, 18] (by kernel_rfl) (by simp) rfl ?_
          intro i hi; simp only [List.mem_cons, List.not_mem_nil, or_false] at hi
          rcases hi with rfl | rfl
          · refine ⟨_, rfl, ?_⟩
            refine OPS.appendNil (m := 1) (v := I rd) (l := []) rfl rfl rfl rfl rfl (sl_run rfl) rfl rfl rfl ⟨x1, 0, rfl, o1.out, trivial⟩ rfl (by omega) (by unfold maxLen; omega) ?_
            intro b1 c1 w hb hc
            have q1 : One w b1 rd := ⟨hc.1⟩
            replace H := H.toBelow hb
            try replace o2 := One.below o2 hb
            try replace q2 := One.below q2 hb
            try replace o3 := One.below o3 hb
            try replace q3 := One.below q3 hb
            clear hb hc
            refine OPS.nil ?_
            refine ⟨(by exact H), ?_⟩
            refine OPH.all [11, 18] (by kernel_rfl) (by simp) rfl ?_
            intro i hi; simp only [List.mem_cons, List.not_mem_nil, or_false] at hi
            rcases hi with rfl | rfl
            · refine ⟨_, rfl, ?_⟩
              refine OPS.appendNil (m := 1) (v := I 0) (l := []) rfl rfl rfl rfl rfl (sl_run rfl) rfl rfl rfl ⟨x2, 0, rfl, o2.out, trivial⟩ rfl (by omega) (by unfold maxLen; omega) ?_
              intro b2 c2 w hb hc
              have q2 : One w b2 0 := ⟨hc.1⟩
              replace H := H.toBelow hb
              try replace o1 := One.below o1 hb
              try replace q1 := One.below q1 hb
              try replace o3 := One.below o3 hb
              try replace q3 := One.below q3 hb
              clear hb hc
              refine OPS.nil ?_
              refine ⟨(by exact H), ?_⟩
              refine OPH.all [18] (by kernel_rfl) (by simp) rfl ?_
              intro i hi; simp only [List.mem_cons, List.not_mem_nil, or_false] at hi
              rcases hi with rfl
              · refine ⟨_, rfl, ?_⟩
                refine OPS.buildSliceB rfl rfl rfl rfl (bsl_55_1_0 rfl) H ?_
                clear H; intro x3 w hb E
                have o3 : One w x3 100 := ⟨E.ldL 0 rfl 0 rfl⟩
                have H := E.drop (List.sublist_cons_self _ _)
                clear E
                try replace o1 := One.below o1 hb
                try replace q1 := One.below q1 hb
                try replace o2 := One.below o2 hb
                try replace q2 := One.below q2 hb
                clear hb
                refine OPS.nil ?_
                refine ⟨(by exact H), ?_⟩
                refine OPH.all [19] (by kernel_rfl) (by simp) rfl ?_
                intro i hi; simp only [List.mem_cons, List.not_mem_nil, or_false] at hi
                rcases hi with rfl
                · refine ⟨_, rfl, ?_⟩
                  refine OPS.appendNil (m := 1) (v := I 100) (l := []) rfl rfl rfl rfl rfl (sl_run rfl) rfl rfl rfl ⟨x3, 0, rfl, o3.out, trivial⟩ rfl (by omega) (by unfold maxLen; omega) ?_
                  intro b3 c3 w hb hc
                  have q3 : One w b3 100 := ⟨hc.1⟩
                  replace H := H.toBelow hb
                  try replace o1 := One.below o1 hb
                  try replace q1 := One.below q1 hb
                  try replace o2 := One.below o2 hb
                  try replace q2 := One.below q2 hb
                  clear hb hc
                  refine OPS.nil ?_
                  refine ⟨(by exact H), ?_⟩
                  refine OPH.take 20 rfl rfl rfl rfl (by kernel_rfl) (by kernel_rfl) (by kernel_rfl) rfl (by exact H) (fun w H => Ev.asS rfl) ?_
                  refine OPH.take 21 rfl rfl rfl rfl (by kernel_rfl) (by kernel_rfl) (by kernel_rfl) rfl (by exact H) (fun w H => Ev.asS rfl) ?_
                  refine OPH.take 22 rfl rfl rfl rfl (by kernel_rfl) (by kernel_rfl) (by kernel_rfl) rfl (by exact H) (fun w H => Ev.asS rfl) ?_
                  refine OPH.done (by kernel_rfl) ?_
                  exact ⟨(by repeat (first | exact Agree.refl _ _ | exact Agree.mix _ _ _ | refine Agree.upd rfl ?_ | refine Agree.mix2 rfl ?_)), b1, c1, b2, c2, b3, c3, rfl, rfl, rfl, q1, q2, q3, H⟩
            · refine ⟨_, rfl, ?_⟩
              refine OPS.buildSliceB rfl rfl rfl rfl (bsl_55_1_0 rfl) H ?_
              clear H; intro x3 w hb E
              have o3 : One w x3 100 := ⟨E.ldL 0 rfl 0 rfl⟩
              have H := E.drop (List.sublist_cons_self _ _)
              clear E
              try replace o1 := One.below o1 hb
              try replace q1 := One.below q1 hb
              try replace o2 := One.below o2 hb
              try replace q2 := One.below q2 hb
              clear hb
              refine OPS.nil ?_
              refine ⟨(by exact H), ?_⟩
              refine OPH.all [11] (by kernel_rfl) (by simp) rfl ?_
              intro i hi; simp only [List.mem_cons, List.not_mem_nil, or_false] at hi
              rcases hi with rfl
              · refine ⟨_, rfl, ?_⟩
                refine OPS.appendNil (m := 1) (v := I 0) (l := []) rfl rfl rfl rfl rfl (sl_run rfl) rfl rfl rfl ⟨x2, 0, rfl, o2.out, trivial⟩ rfl (by omega) (by unfold maxLen; omega) ?_
                intro b2 c2 w hb hc
                have q2 : One w b2 0 := ⟨hc.1⟩
                replace H := H.toBelow hb
                try replace o1 := One.below o1 hb
                try replace q1 := One.below q1 hb
                try replace o3 := One.below o3 hb
                try replace q3 := One.below q3 hb
                clear hb hc
                refine OPS.nil ?_
                refine ⟨(by exact H), ?_⟩
                refine OPH.all [19] (by kernel_rfl) (by simp) rfl ?_
                intro i hi; simp only [List.mem_cons, List.not_mem_nil, or_false] at hi
                rcases hi with rfl
                · refine ⟨_, rfl, ?_⟩
                  refine OPS.appendNil (m := 1) (v := I 100) (l := []) rfl rfl rfl rfl rfl (sl_run rfl) rfl rfl rfl ⟨x3, 0, rfl, o3.out, trivial⟩ rfl (by omega) (by unfold maxLen; omega) ?_
                  intro b3 c3 w hb hc
                  have q3 : One w b3 100 := ⟨hc.1⟩
                  replace H := H.toBelow hb
                  try replace o1 := One.below o1 hb
                  try replace q1 := One.below q1 hb
                  try replace o2 := One.below o2 hb
                  try replace q2 := One.below q2 hb
                  clear hb hc
                  refine OPS.nil ?_
                  refine ⟨(by exact H), ?_⟩
                  refine OPH.take 20 rfl rfl rfl rfl (by kernel_rfl) (by kernel_rfl) (by kernel_rfl) rfl (by exact H) (fun w H => Ev.asS rfl) ?_
                  refine OPH.take 21 rfl rfl rfl rfl (by kernel_rfl) (by kernel_rfl) (by kernel_rfl) rfl (by exact H) (fun w H => Ev.asS rfl) ?_
                  refine OPH.take 22 rfl rfl rfl rfl (by kernel_rfl) (by kernel_rfl) (by kernel_rfl) rfl (by exact H) (fun w H => Ev.asS rfl) ?_
                  refine OPH.done (by kernel_rfl) ?_
                  exact ⟨(by repeat (first | exact Agree.refl _ _ | exact Agree.mix _ _ _ | refine Agree.upd rfl ?_ | refine Agree.mix2 rfl ?_)), b1, c1, b2, c2, b3, c3, rfl, rfl, rfl, q1, q2, q3, H⟩
          · refine ⟨_, rfl, ?_⟩
            refine OPS.buildSliceB rfl rfl rfl rfl (bsl_55_1_0 rfl) H ?_
            clear H; intro x3 w hb E
            have o3 : One w x3 100 := ⟨E.ldL 0 rfl 0 rfl⟩
            have H := E.drop (List.sublist_cons_self _ _)
            clear E
            try replace o1 := One.below o1 hb
            try replace q1 := One.below q1 hb
            try replace o2 := One.below o2 hb
            try replace q2 := One.below q2 hb
            clear hb
            refine OPS.nil ?_
            refine ⟨(by exact H), ?_⟩
            refine OPH.all [4] (by kernel_rfl) (by simp) rfl ?_
            intro i hi; simp only [List.mem_cons, List.not_mem_nil, or_false] at hi
            rcases hi with rfl
            · refine ⟨_, rfl, ?_⟩
              refine OPS.appendNil (m := 1) (v := I rd) (l := []) rfl rfl rfl rfl rfl (sl_run rfl) rfl rfl rfl ⟨x1, 0, rfl, o1.out, trivial⟩ rfl (by omega) (by unfold maxLen; omega) ?_
              intro b1 c1 w hb hc
              have q1 : One w b1 rd := ⟨hc.1⟩
              replace H := H.toBelow hb
              try replace o2 := One.below o2 hb
              try replace q2 := One.below q2 hb
              try replace o3 := One.below o3 hb
              try replace q3 := One.below q3 hb
              clear hb hc
              refine OPS.nil ?_
              refine ⟨(by exact H), ?_⟩
              refine OPH.all [11] (by kernel_rfl) (by simp) rfl ?_
              intro i hi; simp only [List.mem_cons, List.not_mem_nil, or_false] at hi
              rcases hi with rfl
              · refine ⟨_, rfl, ?_⟩
                refine OPS.appendNil (m := 1) (v := I 0) (l := []) rfl rfl rfl rfl rfl (sl_run rfl) rfl rfl rfl ⟨x2, 0, rfl, o2.out, trivial⟩ rfl (by omega) (by unfold maxLen; omega) ?_
                intro b2 c2 w hb hc
                have q2 : One w b2 0 := ⟨hc.1⟩
                replace H := H.toBelow hb
                try replace o1 := One.below o1 hb
                try replace q1 := One.below q1 hb
                try replace o3 := One.below o3 hb
                try replace q3 := One.below q3 hb
                clear hb hc
                refine OPS.nil ?_
                refine ⟨(by exact H), ?_⟩
                refine OPH.all [19] (by kernel_rfl) (by simp) rfl ?_
                intro i hi; simp only [List.mem_cons, List.not_mem_nil, or_false] at hi
                rcases hi with rfl
                · refine ⟨_, rfl, ?_⟩
                  refine OPS.appendNil (m := 1) (v := I 100) (l := []) rfl rfl rfl rfl rfl (sl_run rfl) rfl rfl rfl ⟨x3, 0, rfl, o3.out, trivial⟩ rfl (by omega) (by unfold maxLen; omega) ?_
                  intro b3 c3 w hb hc
                  have q3 : One w b3 100 := ⟨hc.1⟩
                  replace H := H.toBelow hb
                  try replace o1 := One.below o1 hb
                  try replace q1 := One.below q1 hb
                  try replace o2 := One.below o2 hb
                  try replace q2 := One.below q2 hb
                  clear hb hc
                  refine OPS.nil ?_
                  refine ⟨(by exact H), ?_⟩
                  refine OPH.take 20 rfl rfl rfl rfl (by kernel_rfl) (by kernel_rfl) (by kernel_rfl) rfl (by exact H) (fun w H => Ev.asS rfl) ?_
                  refine OPH.take 21 rfl rfl rfl rfl (by kernel_rfl) (by kernel_rfl) (by kernel_rfl) rfl (by exact H) (fun w H => Ev.asS rfl) ?_
                  refine OPH.take 22 rfl rfl rfl rfl (by kernel_rfl) (by kernel_rfl) (by kernel_rfl) rfl (by exact H) (fun w H => Ev.asS rfl) ?_
                  refine OPH.done (by kernel_rfl) ?_
                  exact ⟨(by repeat (first | exact Agree.refl _ _ | exact Agree.mix _ _ _ | refine Agree.upd rfl ?_ | refine Agree.mix2 rfl ?_)), b1, c1, b2, c2, b3, c3, rfl, rfl, rfl, q1, q2, q3, H⟩
        · refine ⟨_, rfl, ?_⟩
          refine OPS.buildSliceB rfl rfl rfl rfl (bsl_55_1_0 rfl) H ?_
          clear H; intro x3 w hb E
          have o3 : One w x3 100 := ⟨E.ldL 0 rfl 0 rfl⟩
          have H := E.drop (List.sublist_cons_self _ _)
          clear E
          try replace o1 := One.below o1 hb
          try replace q1 := One.below q1 hb
          try replace o2 := One.below o2 hb
          try replace q2 := One.below q2 hb
          clear hb
          refine OPS.nil ?_
          refine ⟨(by exact H), ?_⟩
          refine OPH.all [4, 10] (by kernel_rfl) (by simp) rfl ?_
          intro i hi; simp only [List.mem_cons, List.not_mem_nil, or_false] at hi
          rcases hi with rfl | rfl
          · refine ⟨_, rfl, ?_⟩
            refine OPS.appendNil (m := 1) (v := I rd) (l := []) rfl rfl rfl rfl rfl (sl_run rfl) rfl rfl rfl ⟨x1, 0, rfl, o1.out, trivial⟩ rfl (by omega) (by unfold maxLen; omega) ?_
            intro b1 c1 w hb hc
            have q1 : One w b1 rd := ⟨hc.1⟩
            replace H := H.toBelow hb
            try replace o2 := One.below o2 hb
            try replace q2 := One.below q2 hb
            try replace o3 := One.below o3 hb
            try replace q3 := One.below q3 hb
            clear hb hc
            refine OPS.nil ?_
            refine ⟨(by exact H), ?_⟩
            refine OPH.all [10] (by kernel_rfl) (by simp) rfl ?_
            intro i hi; simp only [List.mem_cons, List.not_mem_nil, or_false] at hi
            rcases hi with rfl
            · refine ⟨_, rfl, ?_⟩
              refine OPS.buildSliceB rfl rfl rfl rfl (bsl_55_1_0 rfl) H ?_
              clear H; intro x2 w hb E
              have o2 : One w x2 0 := ⟨E.ldL 0 rfl 0 rfl⟩
              have H := E.drop (List.sublist_cons_self _ _)
              clear E
              try replace o1 := One.below o1 hb
              try replace q1 := One.below q1 hb
              try replace o3 := One.below o3 hb
              try replace q3 := One.below q3 hb
              clear hb
              refine OPS.nil ?_
              refine ⟨(by exact H), ?_⟩
              refine OPH.all [11] (by kernel_rfl) (by simp) rfl ?_
              intro i hi; simp only [List.mem_cons, List.not_mem_nil, or_false] at hi
              rcases hi with rfl
              · refine ⟨_, rfl, ?_⟩
                refine OPS.appendNil (m := 1) (v := I 0) (l := []) rfl rfl rfl rfl rfl (sl_run rfl) rfl rfl rfl ⟨x2, 0, rfl, o2.out, trivial⟩ rfl (by omega) (by unfold maxLen; omega) ?_
                intro b2 c2 w hb hc
                have q2 : One w b2 0 := ⟨hc.1⟩
                replace H := H.toBelow hb
                try replace o1 := One.below o1 hb
                try replace q1 := One.below q1 hb
                try replace o3 := One.below o3 hb
                try replace q3 := One.below q3 hb
                clear hb hc
                refine OPS.nil ?_
                refine ⟨(by exact H), ?_⟩
                refine OPH.all [19] (by kernel_rfl) (by simp) rfl ?_
                intro i hi; simp only [List.mem_cons, List.not_mem_nil, or_false] at hi
                rcases hi with rfl
                · refine ⟨_, rfl, ?_⟩
                  refine OPS.appendNil (m := 1) (v := I 100) (l := []) rfl rfl rfl rfl rfl (sl_run rfl) rfl rfl rfl ⟨x3, 0, rfl, o3.out, trivial⟩ rfl (by omega) (by unfold maxLen; omega) ?_
                  intro b3 c3 w hb hc
                  have q3 : One w b3 100 := ⟨hc.1⟩
                  replace H := H.toBelow hb
                  try replace o1 := One.below o1 hb
                  try replace q1 := One.below q1 hb
                  try replace o2 := One.below o2 hb
                  try replace q2 := One.below q2 hb
                  clear hb hc
                  refine OPS.nil ?_
                  refine ⟨(by exact H), ?_⟩
                  refine OPH.take 20 rfl rfl rfl rfl (by kernel_rfl) (by kernel_rfl) (by kernel_rfl) rfl (by exact H) (fun w H => Ev.asS rfl) ?_
                  refine OPH.take 21 rfl rfl rfl rfl (by kernel_rfl) (by kernel_rfl) (by kernel_rfl) rfl (by exact H) (fun w H => Ev.asS rfl) ?_
                  refine OPH.take 22 rfl rfl rfl rfl (by kernel_rfl) (by kernel_rfl) (by kernel_rfl) rfl (by exact H) (fun w H => Ev.asS rfl) ?_
                  refine OPH.done (by kernel_rfl) ?_
                  exact ⟨(by repeat (first | exact Agree.refl _ _ | exact Agree.mix _ _ _ | refine Agree.upd rfl ?_ | refine Agree.mix2 rfl ?_)), b1, c1, b2, c2, b3, c3, rfl, rfl, rfl, q1, q2, q3, H⟩
          · refine ⟨_, rfl, ?_⟩
            refine OPS.buildSliceB rfl rfl rfl rfl (bsl_55_1_0 rfl) H ?_
            clear H; intro x2 w hb E
            have o2 : One w x2 0 := ⟨E.ldL 0 rfl 0 rfl⟩
            have H := E.drop (List.sublist_cons_self _ _)
            clear E
            try replace o1 := One.below o1 hb
            try replace q1 := One.below q1 hb
            try replace o3 := One.below o3 hb
            try replace q3 := One.below q3 hb
            clear hb
            refine OPS.nil ?_
            refine ⟨(by exact H), ?_⟩
            refine OPH.all [4] (by kernel_rfl) (by simp) rfl ?_
            intro i hi; simp only [List.mem_cons, List.not_mem_nil, or_false] at hi
            rcases hi with rfl
            · refine ⟨_, rfl, ?_⟩
              refine OPS.appendNil (m := 1) (v := I rd) (l := []) rfl rfl rfl rfl rfl (sl_run rfl) rfl rfl rfl ⟨x1, 0, rfl, o1.out, trivial⟩ rfl (by omega) (by unfold maxLen; omega) ?_
              intro b1 c1 w hb hc
              have q1 : One w b1 rd := ⟨hc.1⟩
              replace H := H.toBelow hb
              try replace o2 := One.below o2 hb
              try replace q2 := One.below q2 hb
              try replace o3 := One.below o3 hb
              try replace q3 := One.below q3 hb
              clear hb hc
              refine OPS.nil ?_
              refine ⟨(by exact H), ?_⟩
              refine OPH.all [11] (by kernel_rfl) (by simp) rfl ?_
              intro i hi; simp only [List.mem_cons, List.not_mem_nil, or_false] at hi
              rcases hi with rfl
              · refine ⟨_, rfl, ?_⟩
                refine OPS.appendNil (m := 1) (v := I 0) (l := []) rfl rfl rfl rfl rfl (sl_run rfl) rfl rfl rfl ⟨x2, 0, rfl, o2.out, trivial⟩ rfl (by omega) (by unfold maxLen; omega) ?_
                intro b2 c2 w hb hc
                have q2 : One w b2 0 := ⟨hc.1⟩
                replace H := H.toBelow hb
                try replace o1 := One.below o1 hb
                try replace q1 := One.below q1 hb
                try replace o3 := One.below o3 hb
                try replace q3 := One.below q3 hb
                clear hb hc
                refine OPS.nil ?_
                refine ⟨(by exact H), ?_⟩
                refine OPH.all [19] (by kernel_rfl) (by simp) rfl ?_
                intro i hi; simp only [List.mem_cons, List.not_mem_nil, or_false] at hi
                rcases hi with rfl
                · refine ⟨_, rfl, ?_⟩
                  refine OPS.appendNil (m := 1) (v := I 100) (l := []) rfl rfl rfl rfl rfl (sl_run rfl) rfl rfl rfl ⟨x3, 0, rfl, o3.out, trivial⟩ rfl (by omega) (by unfold maxLen; omega) ?_
                  intro b3 c3 w hb hc
                  have q3 : One w b3 100 := ⟨hc.1⟩
                  replace H := H.toBelow hb
                  try replace o1 := One.below o1 hb
                  try replace q1 := One.below q1 hb
                  try replace o2 := One.below o2 hb
                  try replace q2 := One.below q2 hb
                  clear hb hc
                  refine OPS.nil ?_
                  refine ⟨(by exact H), ?_⟩
                  refine OPH.take 20 rfl rfl rfl rfl (by kernel_rfl) (by kernel_rfl) (by kernel_rfl) rfl (by exact H) (fun w H => Ev.asS rfl) ?_
                  refine OPH.take 21 rfl rfl rfl rfl (by kernel_rfl) (by kernel_rfl) (by kernel_rfl) rfl (by exact H) (fun w H => Ev.asS rfl) ?_
                  refine OPH.take 22 rfl rfl rfl rfl (by kernel_rfl) (by kernel_rfl) (by kernel_rfl) rfl (by exact H) (fun w H => Ev.asS rfl) ?_
                  refine OPH.done (by kernel_rfl) ?_
                  exact ⟨(by repeat (first | exact Agree.refl _ _ | exact Agree.mix _ _ _ | refine Agree.upd rfl ?_ | refine Agree.mix2 rfl ?_)), b1, c1, b2, c2, b3, c3, rfl, rfl, rfl, q1, q2, q3, H⟩
      · refine ⟨_, rfl, ?_⟩
        refine OPS.buildSliceB rfl rfl rfl rfl (bsl_55_1_0 rfl) H ?_
        clear H; intro x2 w hb E
        have o2 : One w x2 0 := ⟨E.ldL 0 rfl 0 rfl⟩
        have H := E.drop (List.sublist_cons_self _ _)
        clear E
        try replace o1 := One.below o1 hb
        try replace q1 := One.below q1 hb
        try replace o3 := One.below o3 hb
        try replace q3 := One.below q3 hb
        clear hb
        refine OPS.nil ?_
        refine ⟨(by exact H), ?_⟩
        refine OPH.all [3, 18] (by kernel_rfl) (by simp) rfl ?_
        intro i hi; simp only [List.mem_cons, List.not_mem_nil, or_false] at hi
        rcases hi with rfl | rfl
        · refine ⟨_, rfl, ?_⟩
          refine OPS.buildSliceB rfl rfl rfl rfl (bsl_55_1_0 rfl) H ?_
          clear H; intro x1 w hb E
          have o1 : One w x1 rd := ⟨E.ldL 0 rfl 0 rfl⟩
          have H := E.drop (List.sublist_cons_self _ _)
          clear E
          try replace o2 := One.below o2 hb
          try replace q2 := One.below q2 hb
          try replace o3 := One.below o3 hb
          try replace q3 := One.below q3 hb
          clear hb
          refine OPS.nil ?_
          refine ⟨(by exact H), ?_⟩
          refine OPH.all [4, 18] (by kernel_rfl) (by simp) rfl ?_
          intro i hi; simp only [List.mem_cons, List.not_mem_nil, or_false] at hi
          rcases hi with rfl | rfl
          · refine ⟨_, rfl, ?_⟩
            refine OPS.appendNil (m := 1) (v := I rd) (l := []) rfl rfl rfl rfl rfl (sl_run rfl) rfl rfl rfl ⟨x1, 0, rfl, o1.out, trivial⟩ rfl (by omega) (by unfold maxLen; omega) ?_
            intro b1 c1 w hb hc
            have q1 : One w b1 rd := ⟨hc.1⟩
            replace H := H.toBelow hb
            try replace o2 := One.below o2 hb
            try replace q2 := One.below q2 hb
            try replace o3 := One.below o3 hb
            try replace q3 := One.below q3 hb
            clear hb hc
            refine OPS.nil ?_
            refine ⟨(by exact H), ?_⟩
            refine OPH.all [11, 18] (by kernel_rfl) (by simp) rfl ?_
            intro i hi; simp only [List.mem_cons, List.not_mem_nil, or_false] at hi
            rcases hi with rfl | rfl
            · refine ⟨_, rfl, ?_⟩
              refine OPS.appendNil (m := 1) (v := I 0) (l := []) rfl rfl rfl rfl rfl (sl_run rfl) rfl rfl rfl ⟨x2, 0, rfl, o2.out, trivial⟩ rfl (by omega) (by unfold maxLen; omega) ?_
              intro b2 c2 w hb hc
              have q2 : One w b2 0 := ⟨hc.1⟩
              replace H := H.toBelow hb
              try replace o1 := One.below o1 hb
              try replace q1 := One.below q1 hb
              try replace o3 := One.below o3 hb
              try replace q3 := One.below q3 hb
              clear hb hc
              refine OPS.nil ?_
              refine ⟨(by exact H), ?_⟩
              refine OPH.all [18] (by kernel_rfl) (by simp) rfl ?_
              intro i hi; simp only [List.mem_cons, List.not_mem_nil, or_false] at hi
              rcases hi with rfl
              · refine ⟨_, rfl, ?_⟩
                refine OPS.buildSliceB rfl rfl rfl rfl (bsl_55_1_0 rfl) H ?_
                clear H; intro x3 w hb E
                have o3 : One w x3 100 := ⟨E.ldL 0 rfl 0 rfl⟩
                have H := E.drop (List.sublist_cons_self _ _)
                clear E
                try replace o1 := One.below o1 hb
                try replace q1 := One.below q1 hb
                try replace o2 := One.below o2 hb
                try replace q2 := One.below q2 hb
                clear hb
                refine OPS.nil ?_
                refine ⟨(by exact H), ?_⟩
                refine OPH.all [19] (by kernel_rfl) (by simp) rfl ?_
                intro i hi; simp only [List.mem_cons, List.not_mem_nil, or_false] at hi
                rcases hi with rfl
                · refine ⟨_, rfl, ?_⟩
                  refine OPS.appendNil (m := 1) (v := I 100) (l := []) rfl rfl rfl rfl rfl (sl_run rfl) rfl rfl rfl ⟨x3, 0, rfl, o3.out, trivial⟩ rfl (by omega) (by unfold maxLen; omega) ?_
                  intro b3 c3 w hb hc
                  have q3 : One w b3 100 := ⟨hc.1⟩
                  replace H := H.toBelow hb
                  try replace o1 := One.below o1 hb
                  try replace q1 := One.below q1 hb
                  try replace o2 := One.below o2 hb
                  try replace q2 := One.below q2 hb
                  clear hb hc
                  refine OPS.nil ?_
                  refine ⟨(by exact H), ?_⟩
                  refine OPH.take 20 rfl rfl rfl rfl (by kernel_rfl) (by kernel_rfl) (by kernel_rfl) rfl (by exact H) (fun w H => Ev.asS rfl) ?_
                  refine OPH.take 21 rfl rfl rfl rfl (by kernel_rfl) (by kernel_rfl) (by kernel_rfl) rfl (by exact H) (fun w H => Ev.asS rfl) ?_
                  refine OPH.take 22 rfl rfl rfl rfl (by kernel_rfl) (by kernel_rfl) (by kernel_rfl) rfl (by exact H) (fun w H => Ev.asS rfl) ?_
                  refine OPH.done (by kernel_rfl) ?_
                  exact ⟨(by repeat (first | exact Agree.refl _ _ | exact Agree.mix _ _ _ | refine Agree.upd rfl ?_ | refine Agree.mix2 rfl ?_)), b1, c1, b2, c2, b3, c3, rfl, rfl, rfl, q1, q2, q3, H⟩
            · refine ⟨_, rfl, ?_⟩
              refine OPS.buildSliceB rfl rfl rfl rfl (bsl_55_1_0 rfl) H ?_
              clear H; intro x3 w hb E
              have o3 : One w x3 100 := ⟨E.ldL 0 rfl 0 rfl⟩
              have H := E.drop (List.sublist_cons_self _ _)
              clear E
              try replace o1 := One.below o1 hb
              try replace q1 := One.below q1 hb
              try replace o2 := One.below o2 hb
              try replace q2 := One.below q2 hb
              clear hb
              refine OPS.nil ?_
              refine ⟨(by exact H), ?_⟩
              refine OPH.all [11] (by kernel_rfl) (by simp) rfl ?_
              intro i hi; simp only [List.mem_cons, List.not_mem_nil, or_false] at hi
              rcases hi with rfl
              · refine ⟨_, rfl, ?_⟩
                refine OPS.appendNil (m := 1) (v := I 0) (l := []) rfl rfl rfl rfl rfl (sl_run rfl) rfl rfl rfl ⟨x2, 0, rfl, o2.out, trivial⟩ rfl (by omega) (by unfold maxLen; omega) ?_
                intro b2 c2 w hb hc
                have q2 : One w b2 0 := ⟨hc.1⟩
                replace H := H.toBelow hb
                try replace o1 := One.below o1 hb
                try replace q1 := One.below q1 hb
                try replace o3 := One.below o3 hb
                try replace q3 := One.below q3 hb
                clear hb hc
                refine OPS.nil ?_
                refine ⟨(by exact H), ?_⟩
                refine OPH.all [19] (by kernel_rfl) (by simp) rfl ?_
                intro i hi; simp only [List.mem_cons, List.not_mem_nil, or_false] at hi
                rcases hi with rfl
                · refine ⟨_, rfl, ?_⟩
                  refine OPS.appendNil (m := 1) (v := I 100) (l := []) rfl rfl rfl rfl rfl (sl_run rfl) rfl rfl rfl ⟨x3, 0, rfl, o3.out, trivial⟩ rfl (by omega) (by unfold maxLen; omega) ?_
                  intro b3 c3 w hb hc
                  have q3 : One w b3 100 := ⟨hc.1⟩
                  replace H := H.toBelow hb
                  try replace o1 := One.below o1 hb
                  try replace q1 := One.below q1 hb
                  try replace o2 := One.below o2 hb
                  try replace q2 := One.below q2 hb
                  clear hb hc
                  refine OPS.nil ?_
                  refine ⟨(by exact H), ?_⟩
                  refine OPH.take 20 rfl rfl rfl rfl (by kernel_rfl) (by kernel_rfl) (by kernel_rfl) rfl (by exact H) (fun w H => Ev.asS rfl) ?_
                  refine OPH.take 21 rfl rfl rfl rfl (by kernel_rfl) (by kernel_rfl) (by kernel_rfl) rfl (by exact H) (fun w H => Ev.asS rfl) ?_
                  refine OPH.take 22 rfl rfl rfl rfl (by kernel_rfl) (by kernel_rfl) (by kernel_rfl) rfl (by exact H) (fun w H => Ev.asS rfl) ?_
                  refine OPH.done (by kernel_rfl) ?_
                  exact ⟨(by repeat (first | exact Agree.refl _ _ | exact Agree.mix _ _ _ | refine Agree.upd rfl ?_ | refine Agree.mix2 rfl ?_)), b1, c1, b2, c2, b3, c3, rfl, rfl, rfl, q1, q2, q3, H⟩
          · refine ⟨_, rfl, ?_⟩
            refine OPS.buildSliceB rfl rfl rfl rfl (bsl_55_1_0 rfl) H ?_
            clear H; intro x3 w hb E
            have o3 : One w x3 100 := ⟨E.ldL 0 rfl 0 rfl⟩
            have H := E.drop (List.sublist_cons_self _ _)
            clear E
            try replace o1 := One.below o1 hb
            try replace q1 := One.below q1 hb
            try replace o2 := One.below o2 hb
            try replace q2 := One.below q2 hb
            clear hb
            refine OPS.nil ?_
            refine ⟨(by exact H), ?_⟩
            refine OPH.all [4] (by kernel_rfl) (by simp) rfl ?_
            intro i hi; simp only [List.mem_cons, List.not_mem_nil, or_false] at hi
            rcases hi with rfl
            · refine ⟨_, rfl, ?_⟩
              refine OPS.appendNil (m := 1) (v := I rd) (l := []) rfl rfl rfl rfl rfl (sl_run rfl) rfl rfl rfl ⟨x1, 0, rfl, o1.out, trivial⟩ rfl (by omega) (by unfold maxLen; omega) ?_
              intro b1 c1 w hb hc
              have q1 : One w b1 rd := ⟨hc.1⟩
              replace H := H.toBelow hb
              try replace o2 := One.below o2 hb
              try replace q2 := One.below q2 hb
              try replace o3 := One.below o3 hb
              try replace q3 := One.below q3 hb
              clear hb hc
              refine OPS.nil ?_
              refine ⟨(by exact H), ?_⟩
              refine OPH.all [11] (by kernel_rfl) (by simp) rfl ?_
              intro i hi; simp only [List.mem_cons, List.not_mem_nil, or_false] at hi
              rcases hi with rfl
              · refine ⟨_, rfl, ?_⟩
                refine OPS.appendNil (m := 1) (v := I 0) (l := []) rfl rfl rfl rfl rfl (sl_run rfl) rfl rfl rfl ⟨x2, 0, rfl, o2.out, trivial⟩ rfl (by omega) (by unfold maxLen; omega) ?_
                intro b2 c2 w hb hc
                have q2 : One w b2 0 := ⟨hc.1⟩
                replace H := H.toBelow hb
                try replace o1 := One.below o1 hb
                try replace q1 := One.below q1 hb
                try replace o3 := One.below o3 hb
                try replace q3 := One.below q3 hb
                clear hb hc
                refine OPS.nil ?_
                refine ⟨(by exact H), ?_⟩
                refine OPH.all [19] (by kernel_rfl) (by simp) rfl ?_
                intro i hi; simp only [List.mem_cons, List.not_mem_nil, or_false] at hi
                rcases hi with rfl
                · refine ⟨_, rfl, ?_⟩
                  refine OPS.appendNil (m := 1) (v := I 100) (l := []) rfl rfl rfl rfl rfl (sl_run rfl) rfl rfl rfl ⟨x3, 0, rfl, o3.out, trivial⟩ rfl (by omega) (by unfold maxLen; omega) ?_
                  intro b3 c3 w hb hc
                  have q3 : One w b3 100 := ⟨hc.1⟩
                  replace H := H.toBelow hb
                  try replace o1 := One.below o1 hb
                  try replace q1 := One.below q1 hb
                  try replace o2 := One.below o2 hb
                  try replace q2 := One.below q2 hb
                  clear hb hc
                  refine OPS.nil ?_
                  refine ⟨(by exact H), ?_⟩
                  refine OPH.take 20 rfl rfl rfl rfl (by kernel_rfl) (by kernel_rfl) (by kernel_rfl) rfl (by exact H) (fun w H => Ev.asS rfl) ?_
                  refine OPH.take 21 rfl rfl rfl rfl (by kernel_rfl) (by kernel_rfl) (by kernel_rfl) rfl (by exact H) (fun w H => Ev.asS rfl) ?_
                  refine OPH.take 22 rfl rfl rfl rfl (by kernel_rfl) (by kernel_rfl) (by kernel_rfl) rfl (by exact H) (fun w H => Ev.asS rfl) ?_
                  refine OPH.done (by kernel_rfl) ?_
                  exact ⟨(by repeat (first | exact Agree.refl _ _ | exact Agree.mix _ _ _ | refine Agree.upd rfl ?_ | refine Agree.mix2 rfl ?_)), b1, c1, b2, c2, b3, c3, rfl, rfl, rfl, q1, q2, q3, H⟩
        · refine ⟨_, rfl, ?_⟩
          refine OPS.buildSliceB rfl rfl rfl rfl (bsl_55_1_0 rfl) H ?_
          clear H; intro x3 w hb E
          have o3 : One w x3 100 := ⟨E.ldL 0 rfl 0 rfl⟩
          have H := E.drop (List.sublist_cons_self _ _)
          clear E
          try replace o1 := One.below o1 hb
          try replace q1 := One.below q1 hb
          try replace o2 := One.below o2 hb
          try replace q2 := One.below q2 hb
          clear hb
          refine OPS.nil ?_
          refine ⟨(by exact H), ?_⟩
          refine OPH.all [3] (by kernel_rfl) (by simp) rfl ?_
          intro i hi; simp only [List.mem_cons, List.not_mem_nil, or_false] at hi
          rcases hi with rfl
          · refine ⟨_, rfl, ?_⟩
            refine OPS.buildSliceB rfl rfl rfl rfl (bsl_55_1_0 rfl) H ?_
            clear H; intro x1 w hb E
            have o1 : One w x1 rd := ⟨E.ldL 0 rfl 0 rfl⟩
            have H := E.drop (List.sublist_cons_self _ _)
            clear E
            try replace o2 := One.below o2 hb
            try replace q2 := One.below q2 hb
            try replace o3 := One.below o3 hb
            try replace q3 := One.below q3 hb
            clear hb
            refine OPS.nil ?_
            refine ⟨(by exact H), ?_⟩
            refine OPH.all [4] (by kernel_rfl) (by simp) rfl ?_
            intro i hi; simp only [List.mem_cons, List.not_mem_nil, or_false] at hi
            rcases hi with rfl
            · refine ⟨_, rfl, ?_⟩
              refine OPS.appendNil (m := 1) (v := I rd) (l := []) rfl rfl rfl rfl rfl (sl_run rfl) rfl rfl rfl ⟨x1, 0, rfl, o1.out, trivial⟩ rfl (by omega) (by unfold maxLen; omega) ?_
              intro b1 c1 w hb hc
              have q1 : One w b1 rd := ⟨hc.1⟩
              replace H := H.toBelow hb
              try replace o2 := One.below o2 hb
              try replace q2 := One.below q2 hb
              try replace o3 := One.below o3 hb
              try replace q3 := One.below q3 hb
              clear hb hc
              refine OPS.nil ?_
              refine ⟨(by exact H), ?_⟩
              refine OPH.all [11] (by kernel_rfl) (by simp) rfl ?_
              intro i hi; simp only [List.mem_cons, List.not_mem_nil, or_false] at hi
              rcases hi with rfl
              · refine ⟨_, rfl, ?_⟩
                refine OPS.appendNil (m := 1) (v := I 0) (l := []) rfl rfl rfl rfl rfl (sl_run rfl) rfl rfl rfl ⟨x2, 0, rfl, o2.out, trivial⟩ rfl (by omega) (by unfold maxLen; omega) ?_
                intro b2 c2 w hb hc
                have q2 : One w b2 0 := ⟨hc.1⟩
                replace H := H.toBelow hb
                try replace o1 := One.below o1 hb
                try replace q1 := One.below q1 hb
                try replace o3 := One.below o3 hb
                try replace q3 := One.below q3 hb
                clear hb hc
                refine OPS.nil ?_
                refine ⟨(by exact H), ?_⟩
                refine OPH.all [19] (by kernel_rfl) (by simp) rfl ?_
                intro i hi; simp only [List.mem_cons, List.not_mem_nil, or_false] at hi
                rcases hi with rfl
                · refine ⟨_, rfl, ?_⟩
                  refine OPS.appendNil (m := 1) (v := I 100) (l := []) rfl rfl rfl rfl rfl (sl_run rfl) rfl rfl rfl ⟨x3, 0, rfl, o3.out, trivial⟩ rfl (by omega) (by unfold maxLen; omega) ?_
                  intro b3 c3 w hb hc
                  have q3 : One w b3 100 := ⟨hc.1⟩
                  replace H := H.toBelow hb
                  try replace o1 := One.below o1 hb
                  try replace q1 := One.below q1 hb
                  try replace o2 := One.below o2 hb
                  try replace q2 := One.below q2 hb
                  clear hb hc
                  refine OPS.nil ?_
                  refine ⟨(by exact H), ?_⟩
                  refine OPH.take 20 rfl rfl rfl rfl (by kernel_rfl) (by kernel_rfl) (by kernel_rfl) rfl (by exact H) (fun w H => Ev.asS rfl) ?_
                  refine OPH.take 21 rfl rfl rfl rfl (by kernel_rfl) (by kernel_rfl) (by kernel_rfl) rfl (by exact H) (fun w H => Ev.asS rfl) ?_
                  refine OPH.take 22 rfl rfl rfl rfl (by kernel_rfl) (by kernel_rfl) (by kernel_rfl) rfl (by exact H) (fun w H => Ev.asS rfl) ?_
                  refine OPH.done (by kernel_rfl) ?_
                  exact ⟨(by repeat (first | exact Agree.refl _ _ | exact Agree.mix _ _ _ | refine Agree.upd rfl ?_ | refine Agree.mix2 rfl ?_)), b1, c1, b2, c2, b3, c3, rfl, rfl, rfl, q1, q2, q3, H⟩
      · refine ⟨_, rfl, ?_⟩
        refine OPS.buildSliceB rfl rfl rfl rfl (bsl_55_1_0 rfl) H ?_
        clear H; intro x3 w hb E
        have o3 : One w x3 100 := ⟨E.ldL 0 rfl 0 rfl⟩
        have H := E.drop (List.sublist_cons_self _ _)
        clear E
        try replace o1 := One.below o1 hb
        try replace q1 := One.below q1 hb
        try replace o2 := One.below o2 hb
        try replace q2 := One.below q2 hb
        clear hb
        refine OPS.nil ?_
        refine ⟨(by exact H), ?_⟩
        refine OPH.all [3, 10] (by kernel_rfl) (by simp) rfl ?_
        intro i hi; simp only [List.mem_cons, List.not_mem_nil, or_false] at hi
        rcases hi with rfl | rfl
        · refine ⟨_, rfl, ?_⟩
          refine OPS.buildSliceB rfl rfl rfl rfl (bsl_55_1_0 rfl) H ?_
          clear H; intro x1 w hb E
          have o1 : One w x1 rd := ⟨E.ldL 0 rfl 0 rfl⟩
          have H := E.drop (List.sublist_cons_self _ _)
          clear E
          try replace o2 := One.below o2 hb
          try replace q2 := One.below q2 hb
          try replace o3 := One.below o3 hb
          try replace q3 := One.below q3 hb
          clear hb
          refine OPS.nil ?_
          refine ⟨(by exact H), ?_⟩
          refine OPH.all [4, 10] (by kernel_rfl) (by simp) rfl ?_
          intro i hi; simp only [List.mem_cons, List.not_mem_nil, or_false] at hi
          rcases hi with rfl | rfl
          · refine ⟨_, rfl, ?_⟩
            refine OPS.appendNil (m := 1) (v := I rd) (l := []) rfl rfl rfl rfl rfl (sl_run rfl) rfl rfl rfl ⟨x1, 0, rfl, o1.out, trivial⟩ rfl (by omega) (by unfold maxLen; omega) ?_
            intro b1 c1 w hb hc
            have q1 : One w b1 rd := ⟨hc.1⟩
            replace H := H.toBelow hb
            try replace o2 := One.below o2 hb
            try replace q2 := One.below q2 hb
            try replace o3 := One.below o3 hb
            try replace q3 := One.below q3 hb
            clear hb hc
            refine OPS.nil ?_
            refine ⟨(by exact H), ?_⟩
            refine OPH.all [10] (by kernel_rfl) (by simp) rfl ?_
            intro i hi; simp only [List.mem_cons, List.not_mem_nil, or_false] at hi
            rcases hi with rfl
            · refine ⟨_, rfl, ?_⟩
              refine OPS.buildSliceB rfl rfl rfl rfl (bsl_55_1_0 rfl) H ?_
              clear H; intro x2 w hb E
              have o2 : One w x2 0 := ⟨E.ldL 0 rfl 0 rfl⟩
              have H := E.drop (List.sublist_cons_self _ _)
              clear E
              try replace o1 := One.below o1 hb
              try replace q1 := One.below q1 hb
              try replace o3 := One.below o3 hb
              try replace q3 := One.below q3 hb
              clear hb
              refine OPS.nil ?_
              refine ⟨(by exact H), ?_⟩
              refine OPH.all [11] (by kernel_rfl) (by simp) rfl ?_
              intro i hi; simp only [List.mem_cons, List.not_mem_nil, or_false] at hi
              rcases hi with rfl
              · refine ⟨_, rfl, ?_⟩
                refine OPS.appendNil (m := 1) (v := I 0) (l := []) rfl rfl rfl rfl rfl (sl_run rfl) rfl rfl rfl ⟨x2, 0, rfl, o2.out, trivial⟩ rfl (by omega) (by unfold maxLen; omega) ?_
                intro b2 c2 w hb hc
                have q2 : One w b2 0 := ⟨hc.1⟩
                replace H := H.toBelow hb
                try replace o1 := One.below o1 hb
                try replace q1 := One.below q1 hb
                try replace o3 := One.below o3 hb
                try replace q3 := One.below q3 hb
                clear hb hc
                refine OPS.nil ?_
                refine ⟨(by exact H), ?_⟩
                refine OPH.all [19] (by kernel_rfl) (by simp) rfl ?_
                intro i hi; simp only [List.mem_cons, List.not_mem_nil, or_false] at hi
                rcases hi with rfl
                · refine ⟨_, rfl, ?_⟩
                  refine OPS.appendNil (m := 1) (v := I 100) (l := []) rfl rfl rfl rfl rfl (sl_run rfl) rfl rfl rfl ⟨x3, 0, rfl, o3.out, trivial⟩ rfl (by omega) (by unfold maxLen; omega) ?_
                  intro b3 c3 w hb hc
                  have q3 : One w b3 100 := ⟨hc.1⟩
                  replace H := H.toBelow hb
                  try replace o1 := One.below o1 hb
                  try replace q1 := One.below q1 hb
                  try replace o2 := One.below o2 hb
                  try replace q2 := One.below q2 hb
                  clear hb hc
                  refine OPS.nil ?_
                  refine ⟨(by exact H), ?_⟩
                  refine OPH.take 20 rfl rfl rfl rfl (by kernel_rfl) (by kernel_rfl) (by kernel_rfl) rfl (by exact H) (fun w H => Ev.asS rfl) ?_
                  refine OPH.take 21 rfl rfl rfl rfl (by kernel_rfl) (by kernel_rfl) (by kernel_rfl) rfl (by exact H) (fun w H => Ev.asS rfl) ?_
                  refine OPH.take 22 rfl rfl rfl rfl (by kernel_rfl) (by kernel_rfl) (by kernel_rfl) rfl (by exact H) (fun w H => Ev.asS rfl) ?_
                  refine OPH.done (by kernel_rfl) ?_
                  exact ⟨(by repeat (first | exact Agree.refl _ _ | exact Agree.mix _ _ _ | refine Agree.upd rfl ?_ | refine Agree.mix2 rfl ?_)), b1, c1, b2, c2, b3, c3, rfl, rfl, rfl, q1, q2, q3, H⟩
          · refine ⟨_, rfl, ?_⟩
            refine OPS.buildSliceB rfl rfl rfl rfl (bsl_55_1_0 rfl) H ?_
            clear H; intro x2 w hb E
            have o2 : One w x2 0 := ⟨E.ldL 0 rfl 0 rfl⟩
            have H := E.drop (List.sublist_cons_self _ _)
            clear E
            try replace o1 := One.below o1 hb
            try replace q1 := One.below q1 hb
            try replace o3 := One.below o3 hb
            try replace q3 := One.below q3 hb
            clear hb
            refine OPS.nil ?_
            refine ⟨(by exact H), ?_⟩
            refine OPH.all [4] (by kernel_rfl) (by simp) rfl ?_
            intro i hi; simp only [List.mem_cons, List.not_mem_nil, or_false] at hi
            rcases hi with rfl
            · refine ⟨_, rfl, ?_⟩
              refine OPS.appendNil (m := 1) (v := I rd) (l := []) rfl rfl rfl rfl rfl (sl_run rfl) rfl rfl rfl ⟨x1, 0, rfl, o1.out, trivial⟩ rfl (by omega) (by unfold maxLen; omega) ?_
              intro b1 c1 w hb hc
              have q1 : One w b1 rd := ⟨hc.1⟩
              replace H := H.toBelow hb
              try replace o2 := One.below o2 hb
              try replace q2 := One.below q2 hb
              try replace o3 := One.below o3 hb
              try replace q3 := One.below q3 hb
              clear hb hc
              refine OPS.nil ?_
              refine ⟨(by exact H), ?_⟩
              refine OPH.all [11] (by kernel_rfl) (by simp) rfl ?_
              intro i hi; simp only [List.mem_cons, List.not_mem_nil, or_false] at hi
              rcases hi with rfl
              · refine ⟨_, rfl, ?_⟩
                refine OPS.appendNil (m := 1) (v := I 0) (l := []) rfl rfl rfl rfl rfl (sl_run rfl) rfl rfl rfl ⟨x2, 0, rfl, o2.out, trivial⟩ rfl (by omega) (by unfold maxLen; omega) ?_
                intro b2 c2 w hb hc
                have q2 : One w b2 0 := ⟨hc.1⟩
                replace H := H.toBelow hb
                try replace o1 := One.below o1 hb
                try replace q1 := One.below q1 hb
                try replace o3 := One.below o3 hb
                try replace q3 := One.below q3 hb
                clear hb hc
                refine OPS.nil ?_
                refine ⟨(by exact H), ?_⟩
                refine OPH.all [19] (by kernel_rfl) (by simp) rfl ?_
                intro i hi; simp only [List.mem_cons, List.not_mem_nil, or_false] at hi
                rcases hi with rfl
                · refine ⟨_, rfl, ?_⟩
                  refine OPS.appendNil (m := 1) (v := I 100) (l := []) rfl rfl rfl rfl rfl (sl_run rfl) rfl rfl rfl ⟨x3, 0, rfl, o3.out, trivial⟩ rfl (by omega) (by unfold maxLen; omega) ?_
                  intro b3 c3 w hb hc
                  have q3 : One w b3 100 := ⟨hc.1⟩
                  replace H := H.toBelow hb
                  try replace o1 := One.below o1 hb
                  try replace q1 := One.below q1 hb
                  try replace o2 := One.below o2 hb
                  try replace q2 := One.below q2 hb
                  clear hb hc
                  refine OPS.nil ?_
                  refine ⟨(by exact H), ?_⟩
                  refine OPH.take 20 rfl rfl rfl rfl (by kernel_rfl) (by kernel_rfl) (by kernel_rfl) rfl (by exact H) (fun w H => Ev.asS rfl) ?_
                  refine OPH.take 21 rfl rfl rfl rfl (by kernel_rfl) (by kernel_rfl) (by kernel_rfl) rfl (by exact H) (fun w H => Ev.asS rfl) ?_
                  refine OPH.take 22 rfl rfl rfl rfl (by kernel_rfl) (by kernel_rfl) (by kernel_rfl) rfl (by exact H) (fun w H => Ev.asS rfl) ?_
                  refine OPH.done (by kernel_rfl) ?_
                  exact ⟨(by repeat (first | exact Agree.refl _ _ | exact Agree.mix _ _ _ | refine Agree.upd rfl ?_ | refine Agree.mix2 rfl ?_)), b1, c1, b2, c2, b3, c3, rfl, rfl, rfl, q1, q2, q3, H⟩
        · refine ⟨_, rfl, ?_⟩
          refine OPS.buildSliceB rfl rfl rfl rfl (bsl_55_1_0 rfl) H ?_
          clear H; intro x2 w hb E
          have o2 : One w x2 0 := ⟨E.ldL 0 rfl 0 rfl⟩
          have H := E.drop (List.sublist_cons_self _ _)
          clear E
          try replace o1 := One.below o1 hb
          try replace q1 := One.below q1 hb
          try replace o3 := One.below o3 hb
          try replace q3 := One.below q3 hb
          clear hb
          refine OPS.nil ?_
          refine ⟨(by exact H), ?_⟩
          refine OPH.all [3] (by kernel_rfl) (by simp) rfl ?_
          intro i hi; simp only [List.mem_cons, List.not_mem_nil, or_false] at hi
          rcases hi with rfl
          · refine ⟨_, rfl, ?_⟩
            refine OPS.buildSliceB rfl rfl rfl rfl (bsl_55_1_0 rfl) H ?_
            clear H; intro x1 w hb E
            have o1 : One w x1 rd := ⟨E.ldL 0 rfl 0 rfl⟩
            have H := E.drop (List.sublist_cons_self _ _)
            clear E
            try replace o2 := One.below o2 hb
            try replace q2 := One.below q2 hb
            try replace o3 := One.below o3 hb
            try replace q3 := One.below q3 hb
            clear hb
            refine OPS.nil ?_
            refine ⟨(by exact H), ?_⟩
            refine OPH.all [4] (by kernel_rfl) (by simp) rfl ?_
            intro i hi; simp only [List.mem_cons, List.not_mem_nil, or_false] at hi
            rcases hi with rfl
            · refine ⟨_, rfl, ?_⟩
              refine OPS.appendNil (m := 1) (v := I rd) (l := []) rfl rfl rfl rfl rfl (sl_run rfl) rfl rfl rfl ⟨x1, 0, rfl, o1.out, trivial⟩ rfl (by omega) (by unfold maxLen; omega) ?_
              intro b1 c1 w hb hc
              have q1 : One w b1 rd := ⟨hc.1⟩
              replace H := H.toBelow hb
              try replace o2 := One.below o2 hb
              try replace q2 := One.below q2 hb
              try replace o3 := One.below o3 hb
              try replace q3 := One.below q3 hb
              clear hb hc
              refine OPS.nil ?_
              refine ⟨(by exact H), ?_⟩
              refine OPH.all [11] (by kernel_rfl) (by simp) rfl ?_
              intro i hi; simp only [List.mem_cons, List.not_mem_nil, or_false] at hi
              rcases hi with rfl
              · refine ⟨_, rfl, ?_⟩
                refine OPS.appendNil (m := 1) (v := I 0) (l := []) rfl rfl rfl rfl rfl (sl_run rfl) rfl rfl rfl ⟨x2, 0, rfl, o2.out, trivial⟩ rfl (by omega) (by unfold maxLen; omega) ?_
                intro b2 c2 w hb hc
                have q2 : One w b2 0 := ⟨hc.1⟩
                replace H := H.toBelow hb
                try replace o1 := One.below o1 hb
                try replace q1 := One.below q1 hb
                try replace o3 := One.below o3 hb
                try replace q3 := One.below q3 hb
                clear hb hc
                refine OPS.nil ?_
                refine ⟨(by exact H), ?_⟩
                refine OPH.all [19] (by kernel_rfl) (by simp) rfl ?_
                intro i hi; simp only [List.mem_cons, List.not_mem_nil, or_false] at hi
                rcases hi with rfl
                · refine ⟨_, rfl, ?_⟩
                  refine OPS.appendNil (m := 1) (v := I 100) (l := []) rfl rfl rfl rfl rfl (sl_run rfl) rfl rfl rfl ⟨x3, 0, rfl, o3.out, trivial⟩ rfl (by omega) (by unfold maxLen; omega) ?_
                  intro b3 c3 w hb hc
                  have q3 : One w b3 100 := ⟨hc.1⟩
                  replace H := H.toBelow hb
                  try replace o1 := One.below o1 hb
                  try replace q1 := One.below q1 hb
                  try replace o2 := One.below o2 hb
                  try replace q2 := One.below q2 hb
                  clear hb hc
                  refine OPS.nil ?_
                  refine ⟨(by exact H), ?_⟩
                  refine OPH.take 20 rfl rfl rfl rfl (by kernel_rfl) (by kernel_rfl) (by kernel_rfl) rfl (by exact H) (fun w H => Ev.asS rfl) ?_
                  refine OPH.take 21 rfl rfl rfl rfl (by kernel_rfl) (by kernel_rfl) (by kernel_rfl) rfl (by exact H) (fun w H => Ev.asS rfl) ?_
                  refine OPH.take 22 rfl rfl rfl rfl (by kernel_rfl) (by kernel_rfl) (by kernel_rfl) rfl (by exact H) (fun w H => Ev.asS rfl) ?_
                  refine OPH.done (by kernel_rfl) ?_
                  exact ⟨(by repeat (first | exact Agree.refl _ _ | exact Agree.mix _ _ _ | refine Agree.upd rfl ?_ | refine Agree.mix2 rfl ?_)), b1, c1, b2, c2, b3, c3, rfl, rfl, rfl, q1, q2, q3, H⟩
    clear H
    rintro u w ⟨b1, c1, b2, c2, b3, c3, h19, h20, h21, q1, q2, q3, H⟩
    refine WP.know (t := 19) h19 (WP.know (t := 20) h20 (WP.know (t := 21) h21 ?_))
    refine WP.region ?_
    refine OPS.val rfl rfl rfl (Ev.add rfl rfl (by unfold fits; omega)) ?_
    refine OPS.val rfl rfl rfl (Ev.mvI rfl) ?_
    refine OPS.nil ?_
    exact ⟨(by repeat (first | exact Agree.refl _ _ | exact Agree.mix _ _ _ | refine Agree.upd rfl ?_ | refine Agree.mix2 rfl ?_)), 0, by omega, 1, rfl, rfl, .inr ⟨rfl, gb, SI, cI, bB, cB, sp2, b1, c1, b2, c2, b3, c3, rfl, rfl, rfl, rfl, q1, q2, q3, H.rx [0, 1, 3, 4, 5, 6]⟩⟩
  obtain rfl : j = 1 := by simp at hc24; omega
  obtain ⟨_, gb, SI, cI, bB, cB, sp2, b1, c1, b2, c2, b3, c3, h18, h19, h20, h21, q1, q2, q3, H⟩ := hst.resolve_left (fun h => absurd h.1 (by omega))
  refine WP.know (t := 18) h18 (WP.know (t := 19) h19 (WP.know (t := 20) h20 (WP.know (t := 21) h21 ?_)))
  refine WP.exit ?_
  refine XB.hit ?_
  refine WP.seq ?_
  refine WP.region ?_
  refine OPS.val rfl rfl rfl (Ev.fieldAddr (fld_run rfl) rfl) ?_
  refine OPS.val rfl rfl rfl (Ev.load1 (agg_run rfl) rfl (by exact H.ldL 4 rfl _ rfl)) ?_
  refine OPS.val rfl rfl rfl (Ev.mvS rfl) ?_
  refine OPS.val rfl rfl rfl (Ev.mvS rfl) ?_
  refine OPS.val rfl rfl rfl (Ev.mvS rfl) ?_
  refine OPS.call (d := some 124) rfl rfl rfl (EvC.func (fun_run rfl)) (capApply b1 b2 b3 c1 c2 c3 rd ⟨hi.r0, hi.r1⟩ w q1 q2 q3) ?_
  rintro _ w ⟨SP, cP, LP, rfl, hOP, Hc⟩
  refine ⟨_, rfl, ?_⟩
  replace H := SH.call (Lv := []) (by rw [List.append_nil]; exact H) Hc
  replace q3 := q3.below Hc.below
  clear Hc
  rcases hOP.form with ⟨_, h1, _⟩ | ⟨bP, sp3, rfl, rfl, _⟩
  · exact absurd h1 (by omega)
  replace H := H.rx (L' := [⟨bP, 3, I 100 :: sp3⟩, ⟨gb, 92, bilC id rd SI 1 cI 100⟩, ⟨bB, 88, .pointer (some ⟨gb, 0, none⟩) :: sp2⟩, ⟨gc, 51, rideC id rd gl ++ sp⟩, ⟨g7, 65, [.slice (some ⟨gv, 0, none⟩) 1 1]⟩, ⟨g5, 63, priC gt gf⟩, ⟨gu, 3, [I (-1)]⟩]) [6, 0, 1, 2, 3, 4, 5]
  refine OPS.val rfl rfl rfl (Ev.mvT rfl) ?_
  refine OPS.val rfl rfl rfl (Ev.extract rfl rfl) ?_
  refine OPS.val rfl rfl rfl (Ev.extract rfl rfl) ?_
  refine OPS.val rfl rfl rfl (Ev.asS rfl) ?_
  refine OPS.val rfl rfl rfl (Ev.asI rfl) ?_
  refine OPS.nil ?_
  refine WP.seq ?_
  refine WP.seq ?_
  refine WP.region ?_
  refine OPS.val rfl rfl rfl (Ev.mvI rfl) ?_
  refine OPS.val rfl rfl rfl (Ev.neq rfl rfl) ?_
  refine OPS.nil ?_
  refine WP.cond rfl (fun hc33 => ?_) (fun hc33 => ?_)
  · refine WP.seq ?_
    cases hc33
  refine WP.skip ?_
  refine WP.seq ?_
  refine WP.region ?_
  refine OPS.val rfl rfl rfl (Ev.makeFunc) ?_
  refine OPS.val rfl rfl rfl (Ev.asF rfl) ?_
  refine OPS.nil ?_
  refine WP.seq ?_
  refine WP.region ?_
  refine OPS.val rfl rfl rfl (Ev.mvS rfl) ?_
  refine OPS.val rfl rfl rfl (Ev.len (el_run rfl) rfl) ?_
  refine OPS.makeCap 0 1 rfl rfl rfl rfl (sl_run rfl) rfl rfl rfl rfl (by omega) (by omega) (by omega) H ?_
  clear H; intro g133 w hb133 H
  replace q3 := q3.below hb133
  refine OPS.val rfl rfl rfl (Ev.asS rfl) ?_
  refine OPS.nil ?_
  refine WP.seq ?_
  refine WP.seq ?_
  refine WP.region ?_
  refine OPS.val rfl rfl rfl (Ev.mvS rfl) ?_
  refine OPS.val rfl rfl rfl (Ev.len (el_run rfl) rfl) ?_
  refine OPS.val rfl rfl rfl (Ev.mvI rfl) ?_
  refine OPS.nil ?_
  refine WP.block ?_
  refine WP.loop [8, 9, 28, 29, 30, 136, 137, 138, 139, 140, 141, 142, 143, 144, 145, 146, 147, 148, 149, 150, 151, 152, 153, 154, 155, 156, 157, 158, 159, 160, 161, 162, 163, 164, 165, 166, 167, 168] (fun k e w' => ∃ (j : Nat) (So : Option Addr) (co : Nat) (Lo : List Blk), j + k = 1 ∧ e 136 = I j ∧ e 28 = .slice So j co ∧ OwnS So co j (if j = 0 then [] else bilC id rd SI 1 cI 100) 68 4 Lo ∧ (j = 0 → One w' b3 100) ∧ SH w0 [] w' ([⟨bP, 3, I 100 :: sp3⟩, ⟨gb, 92, bilC id rd SI 1 cI 100⟩, ⟨bB, 88, .pointer (some ⟨gb, 0, none⟩) :: sp2⟩, ⟨gc, 51, rideC id rd gl ++ sp⟩, ⟨g7, 65, [.slice (some ⟨gv, 0, none⟩) 1 1]⟩, ⟨g5, 63, priC gt gf⟩, ⟨gu, 3, [I (-1)]⟩] ++ Lo)) (1) (⟨0, _, 1, [⟨g133, _, _⟩], rfl, rfl, rfl, ⟨by simp, .inr ⟨g133, _, rfl, rfl, by omega, by unfold maxLen; omega, rfl⟩⟩, (fun _ => q3), H.rx [1, 2, 3, 4, 5, 6, 7, 0]⟩) ?_
  clear H q3
  rintro kk u w ⟨j, So, co, Lo, hk, h136, h28, hO, q3, H⟩
  refine WP.know (t := 136) h136 (WP.know (t := 28) h28 ?_)
  simp only [List.cons_append, List.nil_append] at H
  refine WP.seq ?_
  refine WP.region ?_
  refine OPS.val rfl rfl rfl (Ev.lss rfl rfl) ?_
  refine OPS.nil ?_
  refine WP.seq ?_
  refine WP.cond rfl (fun hc38 => ?_) (fun hc38 => ?_)
  · obtain rfl : j = 0 := by simp at hc38; omega
    rw [if_pos rfl] at hO
    replace q3 := q3 rfl
    refine WP.skip ?_
    refine WP.seq ?_
    refine WP.block ?_
    refine WP.seq ?_
    refine WP.region ?_
    refine OPS.val rfl rfl rfl (Ev.mvI rfl) ?_
    refine OPS.val rfl rfl rfl ((by exact Ev.indexAddr1 (el_run rfl) (size_run rfl) rfl rfl rfl (by omega))) ?_
    refine OPS.val rfl rfl rfl (Ev.load1 (agg_run rfl) rfl (by exact H.ldL 2 rfl _ rfl)) ?_
    refine OPS.val rfl rfl rfl (Ev.asI rfl) ?_
    refine OPS.val rfl rfl rfl (Ev.asP rfl) ?_
    refine OPS.nil ?_
    refine WP.seq ?_
    refine WP.rquiet mixed (by kernel_rfl) H ?_
    clear H; intro w hbw40 H
    refine OPS.val rfl rfl rfl (Ev.mvP rfl) ?_
    refine OPS.val rfl rfl rfl (Ev.mvS rfl) ?_
    refine OPS.val rfl rfl rfl (Ev.mvI rfl) ?_
    refine OPS.val rfl rfl rfl ((by exact Ev.indexAddr1 (el_run rfl) (size_run rfl) rfl rfl rfl (by omega))) ?_
    refine OPS.val rfl rfl rfl (Ev.load1 (agg_run rfl) rfl (by exact H.ldL 0 rfl _ rfl)) ?_
    refine OPS.val rfl rfl rfl (Ev.mvS rfl) ?_
    refine OPS.val rfl rfl rfl (Ev.mvI rfl) ?_
    refine OPS.val rfl rfl rfl ((by exact Ev.indexAddr1 (el_run rfl) (size_run rfl) rfl rfl rfl (by omega))) ?_
    replace q3 := q3.below hbw40
    refine OPS.val rfl rfl rfl (Ev.load1 (agg_run rfl) rfl q3.out) ?_
    refine OPS.val rfl rfl rfl (Ev.sub rfl rfl (by unfold fits; omega)) ?_
    refine OPS.callq rfl rfl rfl (EvC.func (fun_run rfl)) (fun w2 hb2 => billAdd0 gb 6 0 w2) ?_
    refine OPS.nilq H ?_
    clear H; intro w hbx40 H
    replace q3 := q3.below hbx40
    refine WP.seq ?_
    refine WP.region ?_
    refine OPS.val rfl rfl rfl (Ev.mvF rfl) ?_
    refine OPS.val rfl rfl rfl (Ev.mvP rfl) ?_
    refine OPS.call (d := some 154) rfl rfl rfl (EvC.clos rfl (fun_run (by rfl))) (fareAll2 gb g7 g5 gt gf gv id rd t k hi hv w (hz.sh H) (hw.sh H) (H.ldL 4 rfl 0 rfl) (cellsAt_app (sp := []) H 5 rfl) (H.ldL 1 rfl 0 rfl)) ?_
    rintro _ w ⟨rfl, hb⟩
    refine ⟨_, rfl, ?_⟩
    replace H := H.toBelow hb
    replace q3 := q3.below hb
    clear hb
    refine OPS.nil ?_
    refine WP.seq ?_
    refine WP.seq ?_
    refine WP.region ?_
    refine OPS.val rfl rfl rfl (Ev.mvP rfl) ?_
    refine OPS.val rfl rfl rfl ((by exact Ev.nilCheckP rfl)) ?_
    refine OPS.val rfl rfl rfl (Ev.fieldAddr (fld_run rfl) rfl) ?_
    refine OPS.val rfl rfl rfl (Ev.fieldAddr (fld_run rfl) rfl) ?_
    refine OPS.val rfl rfl rfl (Ev.load1 (agg_run rfl) rfl (by exact H.ldL 1 rfl _ rfl)) ?_
    refine OPS.val rfl rfl rfl (Ev.gtr rfl rfl) ?_
    refine OPS.nil ?_
    refine WP.cond rfl (fun hc42 => ?_) (fun hc42 => ?_)
    · refine WP.seq ?_
      cases hc42
    refine WP.skip ?_
    refine WP.region ?_
    refine OPS.val rfl rfl rfl (Ev.mvS rfl) ?_
    refine OPS.val rfl rfl rfl (Ev.mvP rfl) ?_
    refine OPS.val rfl rfl rfl ((by exact Ev.nilCheckP rfl)) ?_
    refine OPS.val rfl rfl rfl (Ev.fieldAddr (fld_run rfl) rfl) ?_
    refine OPS.val rfl rfl rfl ((by exact Ev.loadO 1 H rfl (agg_run rfl) (size_run rfl) (by rfl) rfl)) ?_
    refine OPS.buildSlice rfl rfl rfl rfl (bsl_52_1_0 rfl) H ?_
    clear H; intro g166 w H
    refine OPS.append (m := 1) (news := bilC id rd SI 1 cI 100) (R := [⟨g166, 68, bilC id rd SI 1 cI 100⟩, ⟨bP, 3, I 100 :: sp3⟩, ⟨gb, 92, bilC id rd SI 1 cI 100⟩, ⟨bB, 88, .pointer (some ⟨gb, 0, none⟩) :: sp2⟩, ⟨gc, 51, rideC id rd gl ++ sp⟩, ⟨g7, 65, [.slice (some ⟨gv, 0, none⟩) 1 1]⟩, ⟨g5, 63, priC gt gf⟩, ⟨gu, 3, [I (-1)]⟩]) rfl rfl rfl rfl rfl (sl_run rfl) rfl rfl hO rfl (src_own H 0 rfl) rfl (by omega) (by unfold maxLen; omega) H (List.Perm.refl _) ?_
    clear H hO; intro So co Lo w hO H
    refine OPS.val rfl rfl rfl (Ev.asS rfl) ?_
    refine OPS.nil ?_
    refine WP.region ?_
    refine OPS.val rfl rfl rfl (Ev.add rfl rfl (by unfold fits; omega)) ?_
    refine OPS.val rfl rfl rfl (Ev.mvI rfl) ?_
    refine OPS.nil ?_
    exact ⟨(by repeat (first | exact Agree.refl _ _ | exact Agree.mix _ _ _ | refine Agree.upd rfl ?_ | refine Agree.mix2 rfl ?_)), 0, by omega, 1, So, co, Lo, rfl, rfl, rfl, hO, (fun h => absurd h (by omega)), H.drop (List.sublist_cons_self _ _)⟩
  obtain rfl : j = 1 := by simp at hc38; omega
  rw [if_neg (by omega)] at hO
  rcases hO.form with ⟨_, h1, _⟩ | ⟨go, spo, rfl, rfl, _⟩
  · exact absurd h1 (by omega)
  refine WP.exit ?_
  refine XB.hit ?_
  refine WP.seq ?_
  refine WP.region ?_
  refine OPS.val rfl rfl rfl (Ev.mvS rfl) ?_
  refine OPS.call (d := some 170) rfl rfl rfl (EvC.func (fun_run rfl)) (srtFare (some ⟨go, 0, none⟩) 1 co (by omega) _ _ _ w) ?_
  rintro _ w ⟨rfl, hb⟩
  refine ⟨_, rfl, ?_⟩
  replace H := H.toBelow hb; clear hb
  refine OPS.nil ?_
  refine WP.seq ?_
  refine WP.region ?_
  refine OPS.val rfl rfl rfl (Ev.mvS rfl) ?_
  refine OPS.val rfl rfl rfl (Ev.asS rfl) ?_
  refine OPS.val rfl rfl rfl (Ev.asI rfl) ?_
  refine OPS.nil ?_
  refine WP.ret ⟨_, rfl, ?_⟩
  exact ⟨go, co, rfl, H.ldL 7 rfl 3 rfl, H.below⟩
end Go.Proofs.YtjgdklhbegplfaaGreat

/-
  The law TopParking: plain and walk.
-/
set_option linter.all false
namespace Go.Proofs.YtjgdklhbegplfaaGreat
open Go Go.W Go.RowKit

theorem selL_at {fs : List Fen} {n : Int} {p : Pt} {r t : Int} {tst : Fen → Bool} (h : askErr fs n p r t = 0) {x : Int} : x ∈ selL fs n p r t tst ↔ ∃ i : Nat, x = i ∧ ∃ h : i < fs.length, selB n t tst fs[i] = true := by
  have hgd : ∀ {i : Nat} (h : i < fs.length), fs.getD i default = fs[i] := fun h => by rw [List.getD_eq_getElem?_getD, List.getElem?_eq_getElem h]; rfl
  rw [selL, if_pos h]
  unfold idxF
  constructor
  · intro hx
    obtain ⟨i, hi, rfl⟩ := List.mem_map.1 hx
    obtain ⟨h1, h2⟩ := List.mem_filter.1 hi
    have h1 := List.mem_range.1 h1
    exact ⟨i, rfl, h1, by rw [← hgd h1]; exact h2⟩
  · rintro ⟨i, rfl, hi, hs⟩
    exact List.mem_map.2 ⟨i, List.mem_filter.2 ⟨List.mem_range.2 hi, by rw [hgd hi]; exact hs⟩, rfl⟩
theorem pos_mem {l : List Int} : decide ((0 : Int) < (l.length : Int)) = true ↔ ∃ x, x ∈ l := by
  rw [decide_eq_true_eq]
  constructor
  · intro h
    cases l with
    | nil => simp at h
    | cons x l => exact ⟨x, by simp⟩
  · rintro ⟨x, hx⟩
    have := List.length_pos_of_mem hx
    omega
theorem judge_fine {fs : List Fen} {ps : List Pho} {n : Nat} {p : Park} {q : Pt} (he : judgeErr fs n p = 0) (hq : ptOk q = true) (hd : dotp p.p q q ≤ p.r * p.r) (hno : ∀ f ∈ fs, lawInB f 1 p.t = true → inVal f.P.l q < 0)
    (hgood : fs.any (fun f => lawInB f 2 p.t) = true → fs.any (fun f => lawInB f 2 p.t && decide (0 ≤ inVal f.P.l q)) = true) : judgeK fs ps p = 1 ∨ judgeK fs ps p = 3 := by
  obtain ⟨hpe, hce⟩ := judge_ok he
  obtain ⟨_, _, ht, hpp, hr⟩ := park_ok hpe
  obtain ⟨hl, hf⟩ := chk_ok hce
  have hask : ∀ k, kindB k = true → askErr fs k p.p p.r p.t = 0 := fun k hk => by
    rw [askErr, if_neg (by rw [hce]; simp), if_neg (by rw [hk]; simp), if_neg]
    unfold farB
    have := hpp.x1; have := hpp.x2; have := hpp.y1; have := hpp.y2
    simp; omega
  have hfen : ∀ f ∈ fs, simpleB (edgesL f.P.l) = true ∧ inVal f.P.l q = whereV q (-1) (edgesL f.P.l) ∧ discErr f.P.l p.p p.r = 0 := fun f hm => by
    obtain ⟨_, h2, _⟩ := fErr_ok (hf f hm)
    obtain ⟨_, _, _, p4⟩ := polyErr_ok h2
    have hie : inErr f.P.l q = 0 := by rw [inErr, if_neg (by rw [h2]; simp), if_neg (by rw [hq]; simp)]
    have hie2 : inErr f.P.l p.p = 0 := by rw [inErr, if_neg (by rw [h2]; simp), if_neg (by rw [ptOk_iff.2 hpp]; simp)]
    exact ⟨p4, by rw [inVal, if_pos hie], by rw [discErr, if_neg (by rw [hie2]; simp), if_neg (by omega)]⟩
  have hc1 : coverN fs 1 p = false := by
    cases hc : coverN fs 1 p with
    | false => rfl
    | true =>
      unfold coverN at hc
      obtain ⟨x, hx⟩ := pos_mem.1 hc
      obtain ⟨i, rfl, hi, hs⟩ := (selL_at (hask 1 rfl)).1 hx
      have hm := List.getElem_mem hi
      obtain ⟨h1, h2, h3⟩ := hfen _ hm
      unfold selB at hs
      rw [Bool.and_eq_true] at hs
      have hin : lawInB fs[i] 1 p.t = true := by rw [lawInB_some ht]; exact hs.1
      have := hno _ hm hin
      have hco := hs.2
      unfold coverF at hco
      rw [Bool.and_eq_true] at hco
      have := cover_point h1 hd hco.2
      omega
  have hc2 : (someN fs 2 p && !touchN fs 2 p) = false := by
    cases hsm : someN fs 2 p with
    | false => rfl
    | true =>
      have h1 : fs.any (fun f => lawInB f 2 p.t) = true := by
        unfold someN at hsm
        rw [List.any_eq_true] at hsm ⊢
        obtain ⟨f, hm, h⟩ := hsm
        exact ⟨f, hm, by rw [lawInB_some ht]; exact h⟩
      have h2 := hgood h1
      rw [List.any_eq_true] at h2
      obtain ⟨f, hm, h⟩ := h2
      rw [Bool.and_eq_true, decide_eq_true_eq] at h
      obtain ⟨i, hi, rfl⟩ := List.getElem_of_mem hm
      obtain ⟨g1, g2, g3⟩ := hfen _ hm
      have htc : touchN fs 2 p = true := by
        unfold touchN
        refine pos_mem.2 ⟨_, (selL_at (hask 2 rfl)).2 ⟨i, rfl, hi, ?_⟩⟩
        unfold selB touchF
        have h3 := h.1
        rw [lawInB_some ht] at h3
        unfold someB at h3
        rw [h3, g3, touch_point g1 hd (by rw [← g2]; exact h.2)]; rfl
      rw [htc]; rfl
  rw [judgeK, if_neg (by rw [hc1]; simp), if_neg (by rw [hc2]; simp)]
  split
  · exact .inl rfl
  · split
    · exact .inl rfl
    · exact .inr rfl
end Go.Proofs.YtjgdklhbegplfaaGreat
