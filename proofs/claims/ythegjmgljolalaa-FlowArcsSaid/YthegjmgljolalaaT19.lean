/-
  Walk: the reference's cheap.
-/
import Derived.Test.YthegjmgljolalaaM8
import Derived.Test.YthegjmgljolalaaT18
set_option linter.all false
namespace Go.Proofs.Ythegjmgljolalaa
open Go Go.W Go.RowKit

theorem BFI.bds {l : List Arc} {on : List Int} {n s : Nat} {K : Nat → Bool} {D : Nat → Int} {rk : Nat → Int} {r : Int} {Pr : Nat → Bool → Prop} {d stp : List Int} {fin : List Bool} {T : Nat → Int} (h : BFI l on n s K D rk r Pr d stp fin T) (hS : SP l on n s K D rk) (hn : n ≤ 64) {v : Nat} (hv : v < n) : -10000000 ≤ dAt d v ∧ dAt d v ≤ 1099511627776 := by
  cases hk : K v with
  | true =>
    have h1 := h.lo v hv hk
    have h2 := hS.bd v hv hk
    unfold farI at h1; omega
  | false => rw [h.unk v hv hk]; unfold farI; omega

set_option maxHeartbeats 1000000 in
theorem refCheap (n s : Nat) (A B : Option Addr) (l : List Arc) (on : List Int) (cap cap2 : Nat) (K : Nat → Bool) (D : Nat → Int) (rk : Nat → Int) (w0 : World) (hN : NetOk n l) (hs : s < n) (hV : VFlow l on) (hz : ArcsAt w0 A l) (ho : IntsAt w0 B on) (hS : SP l on n s K D rk) :
    Calls Try.prog 34 #[.agg #[I n, .slice A l.length cap], .slice B on.length cap2, I s] w0 fun e w' => ∃ (gd gs : Nat) (d stp : List Int) (T : Nat → Int), e = .returned (.tuple #[.slice (some ⟨gd, 0, none⟩) n n, .slice (some ⟨gs, 0, none⟩) n n]) ∧ CR l on n s K D T d stp ∧ SH w0 [] w' [⟨gd, 3, d.map I⟩, ⟨gs, 3, stp.map I⟩] := by
  have H := SH.refl w0
  have hn2 := hN.n2
  have hll := hN.len
  have hol := hV.len
  refine Calls.ofWP Try.func34 rfl Try.results34 Try.ntmps34 rfl ?_
  refine WP.seq ?_
  refine WP.region ?_
  refine OPS.box rfl rfl rfl rfl (cA rfl) H ?_
  clear H; intro g3 w H
  refine OPS.val rfl rfl rfl (Ev.asS rfl) ?_
  refine OPS.val rfl rfl rfl (Ev.asS rfl) ?_
  refine OPS.nil ?_
  refine WP.seq ?_
  refine WP.rheldC [8, 9, 14, 15, 16, 17, 18, 19] (fun u w' => ∃ gd gs : Nat, u 8 = .slice (some ⟨gd, 0, none⟩) n n ∧ u 9 = .slice (some ⟨gs, 0, none⟩) n n ∧ SH w0 [] w' [⟨gd, 3, (List.replicate n 0).map I⟩, ⟨gs, 3, (List.replicate n 0).map I⟩, ⟨g3, 24, [I n, .slice A l.length cap]⟩]) mixed H ?_ ?_
  · clear H; intro w hbw1 H
    refine OPH.take 0 rfl rfl rfl rfl (by kernel_rfl) (by kernel_rfl) (by kernel_rfl) rfl (by exact H) (fun w H => Ev.fieldAddr (fld_run rfl) rfl) ?_
    refine OPH.take 1 rfl rfl rfl rfl (by kernel_rfl) (by kernel_rfl) (by kernel_rfl) rfl (by exact H) (fun w H => Ev.load1 (agg_run rfl) rfl (by exact H.ldL 0 rfl _ rfl)) ?_
    refine OPH.take 3 rfl rfl rfl rfl (by kernel_rfl) (by kernel_rfl) (by kernel_rfl) rfl (by exact H) (fun w H => Ev.fieldAddr (fld_run rfl) rfl) ?_
    refine OPH.take 4 rfl rfl rfl rfl (by kernel_rfl) (by kernel_rfl) (by kernel_rfl) rfl (by exact H) (fun w H => Ev.load1 (agg_run rfl) rfl (by exact H.ldL 0 rfl _ rfl)) ?_
    refine OPH.all [2, 5] (by kernel_rfl) (by simp) rfl ?_
    intro i hi; simp only [List.mem_cons, List.not_mem_nil, or_false] at hi
    rcases hi with rfl | rfl
    · refine ⟨_, rfl, ?_⟩
      refine OPS.makeSlice rfl rfl rfl rfl (sl_run rfl) rfl rfl rfl (by omega) (by omega) H ?_
      clear H; intro g16 w H
      refine OPS.nil ?_
      refine ⟨(by exact H.drop (List.sublist_cons_self _ _)), ?_⟩
      refine OPH.take 6 rfl rfl rfl rfl (by kernel_rfl) (by kernel_rfl) (by kernel_rfl) rfl (by exact H.drop (List.sublist_cons_self _ _)) (fun w H => Ev.asS rfl) ?_
      refine OPH.all [5] (by kernel_rfl) (by simp) rfl ?_
      intro i hi; simp only [List.mem_cons, List.not_mem_nil, or_false] at hi
      rcases hi with rfl
      · refine ⟨_, rfl, ?_⟩
        refine OPS.makeSlice rfl rfl rfl rfl (sl_run rfl) rfl rfl rfl (by omega) (by omega) H ?_
        clear H; intro g19 w H
        refine OPS.nil ?_
        refine ⟨(by exact H.drop ((List.sublist_cons_self _ _).trans (List.sublist_cons_self _ _))), ?_⟩
        refine OPH.take 7 rfl rfl rfl rfl (by kernel_rfl) (by kernel_rfl) (by kernel_rfl) rfl (by exact H.drop ((List.sublist_cons_self _ _).trans (List.sublist_cons_self _ _))) (fun w H => Ev.asS rfl) ?_
        refine OPH.done (by kernel_rfl) ?_
        refine ⟨(by repeat (first | exact Agree.refl _ _ | exact Agree.mix _ _ _ | refine Agree.upd rfl ?_ | refine Agree.mix2 rfl ?_)), g16, g19, rfl, rfl, ?_⟩; rw [← mkL_ones]; exact H.reidx [1, 0, 2] (by decide) rfl
    · refine ⟨_, rfl, ?_⟩
      refine OPS.makeSlice rfl rfl rfl rfl (sl_run rfl) rfl rfl rfl (by omega) (by omega) H ?_
      clear H; intro g19 w H
      refine OPS.nil ?_
      refine ⟨(by exact H.drop (List.sublist_cons_self _ _)), ?_⟩
      refine OPH.all [2] (by kernel_rfl) (by simp) rfl ?_
      intro i hi; simp only [List.mem_cons, List.not_mem_nil, or_false] at hi
      rcases hi with rfl
      · refine ⟨_, rfl, ?_⟩
        refine OPS.makeSlice rfl rfl rfl rfl (sl_run rfl) rfl rfl rfl (by omega) (by omega) H ?_
        clear H; intro g16 w H
        refine OPS.nil ?_
        refine ⟨(by exact H.drop ((List.sublist_cons_self _ _).trans (List.sublist_cons_self _ _))), ?_⟩
        refine OPH.take 6 rfl rfl rfl rfl (by kernel_rfl) (by kernel_rfl) (by kernel_rfl) rfl (by exact H.drop ((List.sublist_cons_self _ _).trans (List.sublist_cons_self _ _))) (fun w H => Ev.asS rfl) ?_
        refine OPH.take 7 rfl rfl rfl rfl (by kernel_rfl) (by kernel_rfl) (by kernel_rfl) rfl (by exact H.drop ((List.sublist_cons_self _ _).trans (List.sublist_cons_self _ _))) (fun w H => Ev.asS rfl) ?_
        refine OPH.done (by kernel_rfl) ?_
        refine ⟨(by repeat (first | exact Agree.refl _ _ | exact Agree.mix _ _ _ | refine Agree.upd rfl ?_ | refine Agree.mix2 rfl ?_)), g16, g19, rfl, rfl, ?_⟩; rw [← mkL_ones]; exact H
  clear H
  rintro u w ⟨gd, gs, h8, h9, H⟩
  refine WP.know (t := 8) h8 (WP.know (t := 9) h9 ?_)
  have hfl : (List.replicate n farI).length = (List.replicate n (0 : Int)).length := by simp
  refine WP.seq ?_
  refine WP.seq ?_
  refine WP.region ?_
  refine OPS.val rfl rfl rfl (Ev.asI rfl) ?_
  refine OPS.nil ?_
  refine WP.block ?_
  refine WP.loop [10, 20, 21, 22, 23, 24, 25, 26, 27, 28] (fun k e w' => ∃ v : Nat, v + k = n ∧ e 10 = I v ∧ SH w0 [] w' [⟨gd, 3, (mixL (List.replicate n farI) (List.replicate n 0) v).map I⟩, ⟨gs, 3, (List.replicate n 0).map I⟩, ⟨g3, 24, [I n, .slice A l.length cap]⟩]) (n) (⟨0, by omega, rfl, by rw [mixL_zero]; exact H⟩) ?_
  clear H
  rintro k u w ⟨v, hk, h10, H⟩
  refine WP.know (t := 10) h10 ?_
  refine WP.seq ?_
  refine WP.seq ?_
  refine WP.region ?_
  refine OPS.val rfl rfl rfl (Ev.mvI rfl) ?_
  refine OPS.val rfl rfl rfl (Ev.fieldAddr (fld_run rfl) rfl) ?_
  refine OPS.val rfl rfl rfl (Ev.load1 (agg_run rfl) rfl (by exact H.ldL 2 rfl _ rfl)) ?_
  refine OPS.val rfl rfl rfl (Ev.lss rfl rfl) ?_
  refine OPS.nil ?_
  refine WP.cond rfl (fun hc3 => ?_) (fun hc3 => ?_)
  · have hvn : v < n := by simp at hc3; omega
    have hml : (mixL (List.replicate n farI) (List.replicate n 0) v).length = n := by rw [mixL_length hfl (by simp; omega)]; simp
    have hms := mixL_set (m := List.replicate n (0 : Int)) hfl (show v < (List.replicate n farI).length by simpa using hvn)
    rw [List.getElem_replicate] at hms
    refine WP.skip ?_
    refine WP.seq ?_
    refine WP.block ?_
    refine WP.region ?_
    refine OPS.val rfl rfl rfl (Ev.mvS rfl) ?_
    refine OPS.val rfl rfl rfl (Ev.mvI rfl) ?_
    refine OPS.val rfl rfl rfl ((by exact Ev.indexAddr1 (el_run rfl) (size_run rfl) rfl rfl rfl (by omega))) ?_
    have hpu : putL ((mixL (List.replicate n farI) (List.replicate n 0) v).map I) (0 + v) [I farI] = (mixL (List.replicate n farI) (List.replicate n 0) (v + 1)).map I := by rw [Nat.zero_add, putL_ones, hms]
    refine OPS.store (vs := [I farI]) 0 _ rfl rfl rfl (size_run rfl) rfl (cI rfl) rfl rfl H rfl (by simp only [List.length_map, hml]; omega) ?_
    clear H; intro w H
    simp only [List.set_cons_zero, List.set_cons_succ] at H
    rw [hpu] at H
    refine OPS.nil ?_
    refine WP.region ?_
    refine OPS.val rfl rfl rfl (Ev.mvI rfl) ?_
    refine OPS.val rfl rfl rfl (Ev.add rfl rfl (by unfold fits; omega)) ?_
    refine OPS.val rfl rfl rfl (Ev.asI rfl) ?_
    refine OPS.nil ?_
    exact ⟨(by repeat (first | exact Agree.refl _ _ | exact Agree.mix _ _ _ | refine Agree.upd rfl ?_ | refine Agree.mix2 rfl ?_)), k - 1, by omega, v + 1, by omega, rfl, H⟩
  have hvn : v = n := by simp at hc3; omega
  have hma : mixL (List.replicate n farI) (List.replicate n 0) n = List.replicate n farI := by
    have h := mixL_all hfl
    rw [List.length_replicate] at h; exact h
  rw [hvn, hma] at H
  refine WP.exit ?_
  refine XB.hit ?_
  refine WP.seq ?_
  refine WP.region ?_
  refine OPS.val rfl rfl rfl (Ev.mvS rfl) ?_
  refine OPS.val rfl rfl rfl (Ev.mvI rfl) ?_
  refine OPS.val rfl rfl rfl ((by exact Ev.indexAddr1 (el_run rfl) (size_run rfl) rfl rfl rfl (by omega))) ?_
  have hpu : putL ((List.replicate n farI).map I) (0 + s) [I 0] = ((List.replicate n farI).set s 0).map I := by rw [Nat.zero_add, putL_ones]
  refine OPS.store (vs := [I 0]) 0 _ rfl rfl rfl (size_run rfl) rfl (cI rfl) rfl rfl H rfl (by simp; omega) ?_
  clear H; intro w H
  simp only [List.set_cons_zero, List.set_cons_succ] at H
  rw [hpu] at H
  refine OPS.nil ?_
  refine WP.seq ?_
  refine WP.seq ?_
  refine WP.region ?_
  refine OPS.val rfl rfl rfl (Ev.asI rfl) ?_
  refine OPS.nil ?_
  refine WP.block ?_
  refine WP.loop [11, 12, 13, 32, 33, 34, 35, 36, 37, 38, 39, 40, 41, 42, 43, 44, 45, 46, 47, 48, 49, 50, 51, 52, 53, 54, 55, 56, 57, 58, 59, 60, 61, 62, 63, 64, 65, 66, 67, 68, 69, 70, 71, 72, 73, 74, 75, 76, 77, 78, 79, 80, 81, 82, 83, 84, 85, 86, 87, 88, 89, 90, 91, 92, 93, 94, 95, 96, 97, 98, 99, 100, 101, 102, 103, 104, 105, 106, 107, 108, 109, 110, 111, 112, 113, 114, 115, 116, 117, 118, 119, 120, 121, 122, 123, 124, 125, 126, 127, 128, 129, 130, 131, 132, 133, 134, 135, 136, 137, 138, 139, 140, 141, 142, 143, 144, 145, 146] (fun k e w' => ∃ (r : Nat) (d stp : List Int) (fin : List Bool) (T : Nat → Int), r + k = n ∧ e 11 = I r ∧ SH w0 [] w' [⟨gd, 3, d.map I⟩, ⟨gs, 3, stp.map I⟩, ⟨g3, 24, [I n, .slice A l.length cap]⟩] ∧ BFI l on n s K D rk r (fun i _ => i < 0) d stp fin T) (n) (⟨0, _, _, _, _, by omega, rfl, H, (BFI.init hS hn2 hs).mono fun _ _ _ _ _ _ _ h => absurd h (by omega)⟩) ?_
  clear H
  rintro k u w ⟨r, d, stp, fin, T, hk, h11, H, hB⟩
  refine WP.know (t := 11) h11 ?_
  refine WP.seq ?_
  refine WP.seq ?_
  refine WP.region ?_
  refine OPS.val rfl rfl rfl (Ev.mvI rfl) ?_
  refine OPS.val rfl rfl rfl (Ev.fieldAddr (fld_run rfl) rfl) ?_
  refine OPS.val rfl rfl rfl (Ev.load1 (agg_run rfl) rfl (by exact H.ldL 2 rfl _ rfl)) ?_
  refine OPS.val rfl rfl rfl (Ev.lss rfl rfl) ?_
  refine OPS.nil ?_
  refine WP.cond rfl (fun hc8 => ?_) (fun hc8 => ?_)
  · have hrn : r < n := by simp at hc8; omega
    refine WP.skip ?_
    refine WP.seq ?_
    refine WP.block ?_
    refine WP.seq ?_
    refine WP.region ?_
    refine OPS.val rfl rfl rfl (Ev.asI rfl) ?_
    refine OPS.nil ?_
    refine WP.block ?_
    refine WP.loop [12, 13, 38, 39, 40, 41, 42, 43, 44, 45, 46, 47, 48, 49, 50, 51, 52, 53, 54, 55, 56, 57, 58, 59, 60, 61, 62, 63, 64, 65, 66, 67, 68, 69, 70, 71, 72, 73, 74, 75, 76, 77, 78, 79, 80, 81, 82, 83, 84, 85, 86, 87, 88, 89, 90, 91, 92, 93, 94, 95, 96, 97, 98, 99, 100, 101, 102, 103, 104, 105, 106, 107, 108, 109, 110, 111, 112, 113, 114, 115, 116, 117, 118, 119, 120, 121, 122, 123, 124, 125, 126, 127, 128, 129, 130, 131, 132, 133, 134, 135, 136, 137, 138, 139, 140, 141, 142, 143, 144, 145, 146] (fun k2 e w' => ∃ (j : Nat) (d stp : List Int) (fin : List Bool) (T : Nat → Int), j + k2 = l.length ∧ e 12 = I j ∧ SH w0 [] w' [⟨gd, 3, d.map I⟩, ⟨gs, 3, stp.map I⟩, ⟨g3, 24, [I n, .slice A l.length cap]⟩] ∧ BFI l on n s K D rk r (fun i _ => i < j) d stp fin T) (l.length) (⟨0, d, stp, fin, T, by omega, rfl, H, hB⟩) ?_
    clear H hB
    rintro k2 u2 w ⟨j, d, stp, fin, T, hk2, h12, H, hB⟩
    refine WP.know (t := 12) h12 ?_
    refine WP.seq ?_
    refine WP.seq ?_
    refine WP.region ?_
    refine OPS.val rfl rfl rfl (Ev.mvI rfl) ?_
    refine OPS.val rfl rfl rfl (Ev.fieldAddr (fld_run rfl) rfl) ?_
    refine OPS.val rfl rfl rfl (Ev.load1 (agg_run rfl) rfl (by exact H.ldL 2 rfl _ rfl)) ?_
    refine OPS.val rfl rfl rfl (Ev.len (el_run rfl) rfl) ?_
    refine OPS.val rfl rfl rfl (Ev.lss rfl rfl) ?_
    refine OPS.nil ?_
    refine WP.cond rfl (fun hc11 => ?_) (fun hc11 => ?_)
    · have hlt : j < l.length := by simp at hc11; omega
      have hlt2 : j < on.length := by omega
      obtain ⟨b, o, rfl, hc⟩ := hz j hlt
      obtain ⟨b2, o2, rfl, hx⟩ := ho j hlt2
      have hc' := cellsAt_sh H hc
      have h2 := hN.caps l[j] (List.getElem_mem _)
      obtain ⟨a, b', ham, hbm, hfa, htb, eF, eB⟩ := redge_of (on := on) hN.nodes hlt hlt2 p0
      rw [rc_p0] at eF eB
      refine WP.skip ?_
      refine WP.seq ?_
      refine WP.block ?_
      refine WP.seq ?_
      refine WP.region ?_
      refine OPS.val rfl rfl rfl (Ev.fieldAddr (fld_run rfl) rfl) ?_
      refine OPS.val rfl rfl rfl (Ev.load1 (agg_run rfl) rfl (by exact H.ldL 2 rfl _ rfl)) ?_
      refine OPS.val rfl rfl rfl (Ev.mvI rfl) ?_
      refine OPS.val rfl rfl rfl ((by exact Ev.indexAddr (el_run rfl) (size_run rfl) rfl rfl rfl (by omega))) ?_
      refine OPS.val rfl rfl rfl ((by (change Ev _ _ _ _ (Op.load 46 (Operand.tmp 48)) _; exact Ev.loadN (arcCells l[j]) (agg_run rfl) (size_run rfl) rfl hc'))) ?_
      refine OPS.alloc rfl rfl rfl rfl (zero_run rfl) rfl H ?_
      clear H; intro g13 w H
      refine OPS.store 0 _ rfl rfl rfl (size_run rfl) rfl (cA rfl) rfl rfl H rfl (by simp) ?_
      clear H; intro w H; try simp only [List.set_cons_zero, List.set_cons_succ, putL, Nat.zero_add] at H
      refine OPS.nil ?_
      refine WP.seq ?_
      refine WP.seq ?_
      rw [show arcCells l[j] = [I a, I b', I l[j].cap, I l[j].cost] from by unfold arcCells; rw [hfa, htb]] at H
      have hdl := hB.dlen
      have hsl := hB.stlen
      have hda : dAt d a = d[a]'(by omega) := by simp [dAt, hdl, ham]
      have hdb : dAt d b' = d[b']'(by omega) := by simp [dAt, hdl, hbm]
      have hba := hB.bds hS hn2 ham
      have hbb := hB.bds hS hn2 hbm
      rw [hda] at hba
      rw [hdb] at hbb
      refine WP.rstill mixed (by kernel_rfl) H ?_
      clear H; intro w hbw14 H
      obtain ⟨_, _, e1, hxa⟩ := onesOwn H 1 rfl a (by omega)
      cases e1
      obtain ⟨_, _, e1, hxb⟩ := onesOwn H 1 rfl b' (by omega)
      cases e1
      refine OPS.val rfl rfl rfl (Ev.mvS rfl) ?_
      refine OPS.val rfl rfl rfl (Ev.mvI rfl) ?_
      refine OPS.val rfl rfl rfl ((by exact Ev.indexAddr1 (el_run rfl) (size_run rfl) rfl rfl rfl (by omega))) ?_
      refine OPS.val rfl rfl rfl (Ev.load1 (agg_run rfl) rfl (by exact H.ld0 (by assumption))) ?_
      refine OPS.val rfl rfl rfl (Ev.fieldAddr (fld_run rfl) rfl) ?_
      refine OPS.val rfl rfl rfl (Ev.load1 (agg_run rfl) rfl (by exact H.ldL 0 rfl _ rfl)) ?_
      refine OPS.val rfl rfl rfl (Ev.lss rfl rfl) ?_
      refine OPS.val rfl rfl rfl (Ev.mvB rfl) ?_
      refine OPS.gval rfl rfl rfl rfl rfl (fun hg => Ev.mvS (by rfl)) ?_
      refine OPS.gval rfl rfl rfl rfl rfl (fun hg => Ev.fieldAddr (fld_run rfl) (by rfl)) ?_
      refine OPS.gval rfl rfl rfl rfl rfl (fun hg => Ev.load1 (agg_run rfl) (by exact gvE hg rfl) (by exact H.ldL 0 rfl _ rfl)) ?_
      refine OPS.gval rfl rfl rfl rfl rfl (fun hg => (by exact Ev.indexAddr1 (el_run rfl) (size_run rfl) (by exact gvE hg rfl) (by exact gvE hg rfl) rfl (by omega))) ?_
      refine OPS.gval rfl rfl rfl rfl rfl (fun hg => Ev.load1 (agg_run rfl) (by exact gvE hg rfl) (by assumption)) ?_
      refine OPS.gval rfl rfl rfl rfl rfl (fun hg => Ev.lss (by exact gvE hg rfl) (by rfl)) ?_
      refine OPS.val rfl rfl rfl ((by exact Ev.pickAnd rfl rfl rfl)) ?_
      refine OPS.val rfl rfl rfl (Ev.mvB rfl) ?_
      refine OPS.gval rfl rfl rfl rfl rfl (fun hg => Ev.mvS (by rfl)) ?_
      refine OPS.gval rfl rfl rfl rfl rfl (fun hg => Ev.fieldAddr (fld_run rfl) (by rfl)) ?_
      refine OPS.gval rfl rfl rfl rfl rfl (fun hg => Ev.load1 (agg_run rfl) (by exact gvE hg rfl) (by exact H.ldL 0 rfl _ rfl)) ?_
      refine OPS.gval rfl rfl rfl rfl rfl (fun hg => (by exact Ev.indexAddr1 (el_run rfl) (size_run rfl) (by exact gvE hg rfl) (by exact gvE hg rfl) rfl (by omega))) ?_
      refine OPS.gval rfl rfl rfl rfl rfl (fun hg => Ev.load1 (agg_run rfl) (by exact gvE hg rfl) (by assumption)) ?_
      refine OPS.gval rfl rfl rfl rfl rfl (fun hg => Ev.fieldAddr (fld_run rfl) (by rfl)) ?_
      refine OPS.gval rfl rfl rfl rfl rfl (fun hg => Ev.load1 (agg_run rfl) (by exact gvE hg rfl) (by exact H.ldL 0 rfl _ rfl)) ?_
      refine OPS.gval rfl rfl rfl rfl rfl (fun hg => Ev.add (by exact gvE hg rfl) (by exact gvE hg rfl) (by unfold fits; omega)) ?_
      refine OPS.gval rfl rfl rfl rfl rfl (fun hg => Ev.mvS (by rfl)) ?_
      refine OPS.gval rfl rfl rfl rfl rfl (fun hg => Ev.fieldAddr (fld_run rfl) (by rfl)) ?_
      refine OPS.gval rfl rfl rfl rfl rfl (fun hg => Ev.load1 (agg_run rfl) (by exact gvE hg rfl) (by exact H.ldL 0 rfl _ rfl)) ?_
      refine OPS.gval rfl rfl rfl rfl rfl (fun hg => (by exact Ev.indexAddr1 (el_run rfl) (size_run rfl) (by exact gvE hg rfl) (by exact gvE hg rfl) rfl (by omega))) ?_
      refine OPS.gval rfl rfl rfl rfl rfl (fun hg => Ev.load1 (agg_run rfl) (by exact gvE hg rfl) (by assumption)) ?_
      refine OPS.gval rfl rfl rfl rfl rfl (fun hg => Ev.lss (by exact gvE hg rfl) (by exact gvE hg rfl)) ?_
      refine OPS.val rfl rfl rfl ((by exact Ev.pickAnd rfl rfl rfl)) ?_
      refine OPS.nil_s ?_
      refine WP.cut [81, 82, 83, 84, 85, 86, 87, 88, 89, 90, 91, 92, 93, 94, 95, 96, 97, 98] (fun _ w' => ∃ (d stp : List Int) (fin : List Bool) (T : Nat → Int), SH w0 [] w' [⟨g13, 46, [I a, I b', I l[j].cap, I l[j].cost]⟩, ⟨gd, 3, d.map I⟩, ⟨gs, 3, stp.map I⟩, ⟨g3, 24, [I n, .slice (some ⟨b, o, none⟩) l.length cap]⟩] ∧ BFI l on n s K D rk r (fun i fw => i < j ∨ (i = j ∧ fw = true)) d stp fin T) ?_ ?_
      · refine WP.cond rfl (fun hc14 => ?_) (fun hc14 => ?_)
        · simp only [Bool.and_eq_true, decide_eq_true_eq] at hc14
          obtain ⟨⟨q1, q2⟩, q3⟩ := hc14
          obtain ⟨fin', T', hB2⟩ := hB.relax hS hn2 (eF q1) ham hbm (by rw [hda]; exact q2) (by rw [hda, hdb]; exact q3)
          rw [hda] at hB2
          have Hf := H
          replace H := H.reidx (L' := [⟨g13, 46, [I a, I b', I l[j].cap, I l[j].cost]⟩, ⟨g3, 24, [I n, .slice (some ⟨b, o, none⟩) l.length cap]⟩]) [0, 3] (by decide) rfl
          have hpu1 : putL (d.map I) (0 + b') [I (d[a] + l[j].cost)] = (d.set b' (d[a] + l[j].cost)).map I := by rw [Nat.zero_add, putL_ones]
          have hpu2 : putL (stp.map I) (0 + b') [I ((j : Int) + 1)] = (stp.set b' ((j : Int) + 1)).map I := by rw [Nat.zero_add, putL_ones]
          refine WP.rheldC [81, 82, 83, 84, 85, 86, 87, 88, 89, 90, 91, 92, 93, 94, 95, 96, 97, 98] (fun _ w' => SH w0 [] w' [⟨g13, 46, [I a, I b', I l[j].cap, I l[j].cost]⟩, ⟨gd, 3, (d.set b' (d[a] + l[j].cost)).map I⟩, ⟨gs, 3, (stp.set b' ((j : Int) + 1)).map I⟩, ⟨g3, 24, [I n, .slice (some ⟨b, o, none⟩) l.length cap]⟩]) mixed H ?_ ?_
          · clear H; intro w hbw15 H
            refine OPH.take 0 rfl rfl rfl rfl (by kernel_rfl) (by kernel_rfl) (by kernel_rfl) rfl (by exact H) (fun w H => Ev.mvS rfl) ?_
            refine OPH.take 1 rfl rfl rfl rfl (by kernel_rfl) (by kernel_rfl) (by kernel_rfl) rfl (by exact H) (fun w H => Ev.fieldAddr (fld_run rfl) rfl) ?_
            refine OPH.take 2 rfl rfl rfl rfl (by kernel_rfl) (by kernel_rfl) (by kernel_rfl) rfl (by exact H) (fun w H => Ev.load1 (agg_run rfl) rfl (by exact H.ldL 0 rfl _ rfl)) ?_
            refine OPH.take 3 rfl rfl rfl rfl (by kernel_rfl) (by kernel_rfl) (by kernel_rfl) rfl (by exact H) (fun w H => Ev.mvS rfl) ?_
            refine OPH.take 4 rfl rfl rfl rfl (by kernel_rfl) (by kernel_rfl) (by kernel_rfl) rfl (by exact H) (fun w H => Ev.fieldAddr (fld_run rfl) rfl) ?_
            refine OPH.take 5 rfl rfl rfl rfl (by kernel_rfl) (by kernel_rfl) (by kernel_rfl) rfl (by exact H) (fun w H => Ev.load1 (agg_run rfl) rfl (by exact H.ldL 0 rfl _ rfl)) ?_
            refine OPH.take 6 rfl rfl rfl rfl (by kernel_rfl) (by kernel_rfl) (by kernel_rfl) rfl (by exact H) (fun w H => Ev.mvS rfl) ?_
            refine OPH.take 7 rfl rfl rfl rfl (by kernel_rfl) (by kernel_rfl) (by kernel_rfl) rfl (by exact H) (fun w H => Ev.fieldAddr (fld_run rfl) rfl) ?_
            refine OPH.take 8 rfl rfl rfl rfl (by kernel_rfl) (by kernel_rfl) (by kernel_rfl) rfl (by exact H) (fun w H => Ev.load1 (agg_run rfl) rfl (by exact H.ldL 0 rfl _ rfl)) ?_
            refine OPH.take 9 rfl rfl rfl rfl (by kernel_rfl) (by kernel_rfl) (by kernel_rfl) rfl (by exact H) (fun w H => (by exact Ev.indexAddr1 (el_run rfl) (size_run rfl) rfl rfl rfl (by omega))) ?_
            refine OPH.take 11 rfl rfl rfl rfl (by kernel_rfl) (by kernel_rfl) (by kernel_rfl) rfl (by exact H) (fun w H => Ev.fieldAddr (fld_run rfl) rfl) ?_
            refine OPH.take 12 rfl rfl rfl rfl (by kernel_rfl) (by kernel_rfl) (by kernel_rfl) rfl (by exact H) (fun w H => Ev.load1 (agg_run rfl) rfl (by exact H.ldL 0 rfl _ rfl)) ?_
            refine OPH.take 14 rfl rfl rfl rfl (by kernel_rfl) (by kernel_rfl) (by kernel_rfl) rfl (by exact H) (fun w H => Ev.mvI rfl) ?_
            refine OPH.take 15 rfl rfl rfl rfl (by kernel_rfl) (by kernel_rfl) (by kernel_rfl) rfl (by exact H) (fun w H => Ev.add rfl rfl (by unfold fits; omega)) ?_
            refine OPH.all [10] (by kernel_rfl) (by simp) rfl ?_
            intro i hi; simp only [List.mem_cons, List.not_mem_nil, or_false] at hi
            rcases hi with rfl
            · refine ⟨_, rfl, ?_⟩
              try replace Hf := Hf.toBelow hbw15
              have hxa2 := (onesOwn Hf 1 rfl).atK (show a < d.length by omega)
              refine OPS.val rfl rfl rfl (Ev.load1 (agg_run rfl) rfl hxa2) ?_
              refine OPS.nil ?_
              refine ⟨(by exact H), ?_⟩
              refine OPH.take 13 rfl rfl rfl rfl (by kernel_rfl) (by kernel_rfl) (by kernel_rfl) rfl (by exact H) (fun w H => Ev.add rfl rfl (by unfold fits; omega)) ?_
              refine OPH.take 16 rfl rfl rfl rfl (by kernel_rfl) (by kernel_rfl) (by kernel_rfl) rfl (by exact H) (fun w H => (by exact Ev.indexAddr1 (el_run rfl) (size_run rfl) rfl rfl rfl (by omega))) ?_
              refine OPH.all [17] (by kernel_rfl) (by simp) rfl ?_
              intro i hi; simp only [List.mem_cons, List.not_mem_nil, or_false] at hi
              rcases hi with rfl
              · refine ⟨_, rfl, ?_⟩
                try replace Hf := Hf.toBelow hbw15
                refine OPS.store (vs := [I (d[a] + l[j].cost)]) 1 _ rfl rfl rfl (size_run rfl) rfl (cI rfl) rfl rfl Hf rfl (by simp only [List.length_map]; omega) ?_
                clear H Hf; intro w Hf
                simp only [List.set_cons_zero, List.set_cons_succ] at Hf
                rw [hpu1] at Hf
                have H := Hf.reidx (L' := [⟨g13, 46, [I a, I b', I l[j].cap, I l[j].cost]⟩, ⟨g3, 24, [I n, .slice (some ⟨b, o, none⟩) l.length cap]⟩]) [0, 3] (by decide) rfl
                refine OPS.nil ?_
                refine ⟨(by exact H), ?_⟩
                refine OPH.take 18 rfl rfl rfl rfl (by kernel_rfl) (by kernel_rfl) (by kernel_rfl) rfl (by exact H) (fun w H => (by exact Ev.indexAddr1 (el_run rfl) (size_run rfl) rfl rfl rfl (by omega))) ?_
                refine OPH.all [19] (by kernel_rfl) (by simp) rfl ?_
                intro i hi; simp only [List.mem_cons, List.not_mem_nil, or_false] at hi
                rcases hi with rfl
                · refine ⟨_, rfl, ?_⟩
                  try replace Hf := Hf.toBelow hbw15
                  refine OPS.store (vs := [I ((j : Int) + 1)]) 2 _ rfl rfl rfl (size_run rfl) rfl (cI rfl) rfl rfl Hf rfl (by simp only [List.length_map]; omega) ?_
                  clear H Hf; intro w Hf
                  simp only [List.set_cons_zero, List.set_cons_succ] at Hf
                  rw [hpu2] at Hf
                  have H := Hf.reidx (L' := [⟨g13, 46, [I a, I b', I l[j].cap, I l[j].cost]⟩, ⟨g3, 24, [I n, .slice (some ⟨b, o, none⟩) l.length cap]⟩]) [0, 3] (by decide) rfl
                  refine OPS.nil ?_
                  refine ⟨(by exact H), ?_⟩
                  refine OPH.done (by kernel_rfl) ?_
                  exact ⟨(by repeat (first | exact Agree.refl _ _ | exact Agree.mix _ _ _ | refine Agree.upd rfl ?_ | refine Agree.mix2 rfl ?_)), Hf⟩
          clear H
          rintro u4 w H
          have hnx : ∃ (d stp : List Int) (fin : List Bool) (T : Nat → Int), SH w0 [] w [⟨g13, 46, [I a, I b', I l[j].cap, I l[j].cost]⟩, ⟨gd, 3, d.map I⟩, ⟨gs, 3, stp.map I⟩, ⟨g3, 24, [I n, .slice (some ⟨b, o, none⟩) l.length cap]⟩] ∧ BFI l on n s K D rk r (fun i fw => i < j ∨ (i = j ∧ fw = true)) d stp fin T := ⟨_, _, fin', T', H, hB2⟩
          exact ⟨(by repeat (first | exact Agree.refl _ _ | exact Agree.mix _ _ _ | refine Agree.upd rfl ?_ | refine Agree.mix2 rfl ?_)), hnx⟩
        have hno : on[j] < l[j].cap → ¬ (dAt d a < farI ∧ dAt d a + l[j].cost < dAt d b') := by
          rw [hda, hdb]
          rintro q1 ⟨q2, q3⟩
          have q2 : d[a] < 1099511627776 := q2
          simp [q1, q2] at hc14; omega
        have hnx : ∃ (d stp : List Int) (fin : List Bool) (T : Nat → Int), SH w0 [] w [⟨g13, 46, [I a, I b', I l[j].cap, I l[j].cost]⟩, ⟨gd, 3, d.map I⟩, ⟨gs, 3, stp.map I⟩, ⟨g3, 24, [I n, .slice (some ⟨b, o, none⟩) l.length cap]⟩] ∧ BFI l on n s K D rk r (fun i fw => i < j ∨ (i = j ∧ fw = true)) d stp fin T := by
          refine ⟨d, stp, fin, T, H, ?_⟩
          by_cases hlc : on[j] < l[j].cap
          · exact hB.keep hn2 hS (eF hlc) (hno hlc)
          · exact hB.mono fun i f u v r w hE hp => by
              rcases hp with hp | ⟨rfl, rfl⟩
              · exact hp
              · obtain ⟨_, _, q, _⟩ := hE; exact absurd (q rfl).2.2.2.1 hlc
        refine WP.skip ?_
        exact ⟨(by repeat (first | exact Agree.refl _ _ | exact Agree.mix _ _ _ | refine Agree.upd rfl ?_ | refine Agree.mix2 rfl ?_)), hnx⟩
      clear H hB
      rintro u3 w ⟨d, stp, fin, T, H, hB⟩
      have hdl := hB.dlen
      have hsl := hB.stlen
      have hda : dAt d a = d[a]'(by omega) := by simp [dAt, hdl, ham]
      have hdb : dAt d b' = d[b']'(by omega) := by simp [dAt, hdl, hbm]
      have hba := hB.bds hS hn2 ham
      have hbb := hB.bds hS hn2 hbm
      rw [hda] at hba
      rw [hdb] at hbb
      refine WP.seq ?_
      refine WP.rstill mixed (by kernel_rfl) H ?_
      clear H; intro w hbw16 H
      obtain ⟨_, _, e1, hxa⟩ := onesOwn H 1 rfl a (by omega)
      cases e1
      obtain ⟨_, _, e1, hxb⟩ := onesOwn H 1 rfl b' (by omega)
      cases e1
      refine OPS.val rfl rfl rfl (Ev.mvS rfl) ?_
      refine OPS.val rfl rfl rfl (Ev.mvI rfl) ?_
      refine OPS.val rfl rfl rfl ((by exact Ev.indexAddr1 (el_run rfl) (size_run rfl) rfl rfl rfl (by omega))) ?_
      refine OPS.val rfl rfl rfl (Ev.load1 (agg_run rfl) rfl (by exact H.ld0 (by assumption))) ?_
      refine OPS.val rfl rfl rfl (Ev.gtr rfl rfl) ?_
      refine OPS.val rfl rfl rfl (Ev.mvB rfl) ?_
      refine OPS.gval rfl rfl rfl rfl rfl (fun hg => Ev.mvS (by rfl)) ?_
      refine OPS.gval rfl rfl rfl rfl rfl (fun hg => Ev.fieldAddr (fld_run rfl) (by rfl)) ?_
      refine OPS.gval rfl rfl rfl rfl rfl (fun hg => Ev.load1 (agg_run rfl) (by exact gvE hg rfl) (by exact H.ldL 0 rfl _ rfl)) ?_
      refine OPS.gval rfl rfl rfl rfl rfl (fun hg => (by exact Ev.indexAddr1 (el_run rfl) (size_run rfl) (by exact gvE hg rfl) (by exact gvE hg rfl) rfl (by omega))) ?_
      refine OPS.gval rfl rfl rfl rfl rfl (fun hg => Ev.load1 (agg_run rfl) (by exact gvE hg rfl) (by assumption)) ?_
      refine OPS.gval rfl rfl rfl rfl rfl (fun hg => Ev.lss (by exact gvE hg rfl) (by rfl)) ?_
      refine OPS.val rfl rfl rfl ((by exact Ev.pickAnd rfl rfl rfl)) ?_
      refine OPS.val rfl rfl rfl (Ev.mvB rfl) ?_
      refine OPS.gval rfl rfl rfl rfl rfl (fun hg => Ev.mvS (by rfl)) ?_
      refine OPS.gval rfl rfl rfl rfl rfl (fun hg => Ev.fieldAddr (fld_run rfl) (by rfl)) ?_
      refine OPS.gval rfl rfl rfl rfl rfl (fun hg => Ev.load1 (agg_run rfl) (by exact gvE hg rfl) (by exact H.ldL 0 rfl _ rfl)) ?_
      refine OPS.gval rfl rfl rfl rfl rfl (fun hg => (by exact Ev.indexAddr1 (el_run rfl) (size_run rfl) (by exact gvE hg rfl) (by exact gvE hg rfl) rfl (by omega))) ?_
      refine OPS.gval rfl rfl rfl rfl rfl (fun hg => Ev.load1 (agg_run rfl) (by exact gvE hg rfl) (by assumption)) ?_
      refine OPS.gval rfl rfl rfl rfl rfl (fun hg => Ev.fieldAddr (fld_run rfl) (by rfl)) ?_
      refine OPS.gval rfl rfl rfl rfl rfl (fun hg => Ev.load1 (agg_run rfl) (by exact gvE hg rfl) (by exact H.ldL 0 rfl _ rfl)) ?_
      refine OPS.gval rfl rfl rfl rfl rfl (fun hg => Ev.sub (by exact gvE hg rfl) (by exact gvE hg rfl) (by unfold fits; omega)) ?_
      refine OPS.gval rfl rfl rfl rfl rfl (fun hg => Ev.mvS (by rfl)) ?_
      refine OPS.gval rfl rfl rfl rfl rfl (fun hg => Ev.fieldAddr (fld_run rfl) (by rfl)) ?_
      refine OPS.gval rfl rfl rfl rfl rfl (fun hg => Ev.load1 (agg_run rfl) (by exact gvE hg rfl) (by exact H.ldL 0 rfl _ rfl)) ?_
      refine OPS.gval rfl rfl rfl rfl rfl (fun hg => (by exact Ev.indexAddr1 (el_run rfl) (size_run rfl) (by exact gvE hg rfl) (by exact gvE hg rfl) rfl (by omega))) ?_
      refine OPS.gval rfl rfl rfl rfl rfl (fun hg => Ev.load1 (agg_run rfl) (by exact gvE hg rfl) (by assumption)) ?_
      refine OPS.gval rfl rfl rfl rfl rfl (fun hg => Ev.lss (by exact gvE hg rfl) (by exact gvE hg rfl)) ?_
      refine OPS.val rfl rfl rfl ((by exact Ev.pickAnd rfl rfl rfl)) ?_
      refine OPS.nil_s ?_
      refine WP.cond rfl (fun hc16 => ?_) (fun hc16 => ?_)
      · simp only [Bool.and_eq_true, decide_eq_true_eq] at hc16
        obtain ⟨⟨q1, q2⟩, q3⟩ := hc16
        obtain ⟨fin', T', hB2⟩ := hB.relax hS hn2 (eB q1) hbm ham (by rw [hdb]; exact q2) (by rw [hda, hdb]; omega)
        rw [hdb] at hB2
        have Hf := H
        replace H := H.reidx (L' := [⟨g13, 46, [I a, I b', I l[j].cap, I l[j].cost]⟩, ⟨g3, 24, [I n, .slice (some ⟨b, o, none⟩) l.length cap]⟩]) [0, 3] (by decide) rfl
        have hpu1 : putL (d.map I) (0 + a) [I (d[b'] - l[j].cost)] = (d.set a (d[b'] + -l[j].cost)).map I := by rw [Nat.zero_add, putL_ones]; rfl
        have hpu2 : putL (stp.map I) (0 + a) [I (-(j : Int) - 1)] = (stp.set a (-(j : Int) - 1)).map I := by rw [Nat.zero_add, putL_ones]
        refine WP.rheldC [128, 129, 130, 131, 132, 133, 134, 135, 136, 137, 138, 139, 140, 141, 142, 143, 144, 145, 146] (fun _ w' => SH w0 [] w' [⟨g13, 46, [I a, I b', I l[j].cap, I l[j].cost]⟩, ⟨gd, 3, (d.set a (d[b'] + -l[j].cost)).map I⟩, ⟨gs, 3, (stp.set a (-(j : Int) - 1)).map I⟩, ⟨g3, 24, [I n, .slice (some ⟨b, o, none⟩) l.length cap]⟩]) mixed H ?_ ?_
        · clear H; intro w hbw17 H
          refine OPH.take 0 rfl rfl rfl rfl (by kernel_rfl) (by kernel_rfl) (by kernel_rfl) rfl (by exact H) (fun w H => Ev.mvS rfl) ?_
          refine OPH.take 1 rfl rfl rfl rfl (by kernel_rfl) (by kernel_rfl) (by kernel_rfl) rfl (by exact H) (fun w H => Ev.fieldAddr (fld_run rfl) rfl) ?_
          refine OPH.take 2 rfl rfl rfl rfl (by kernel_rfl) (by kernel_rfl) (by kernel_rfl) rfl (by exact H) (fun w H => Ev.load1 (agg_run rfl) rfl (by exact H.ldL 0 rfl _ rfl)) ?_
          refine OPH.take 3 rfl rfl rfl rfl (by kernel_rfl) (by kernel_rfl) (by kernel_rfl) rfl (by exact H) (fun w H => Ev.mvS rfl) ?_
          refine OPH.take 4 rfl rfl rfl rfl (by kernel_rfl) (by kernel_rfl) (by kernel_rfl) rfl (by exact H) (fun w H => Ev.fieldAddr (fld_run rfl) rfl) ?_
          refine OPH.take 5 rfl rfl rfl rfl (by kernel_rfl) (by kernel_rfl) (by kernel_rfl) rfl (by exact H) (fun w H => Ev.load1 (agg_run rfl) rfl (by exact H.ldL 0 rfl _ rfl)) ?_
          refine OPH.take 6 rfl rfl rfl rfl (by kernel_rfl) (by kernel_rfl) (by kernel_rfl) rfl (by exact H) (fun w H => Ev.mvS rfl) ?_
          refine OPH.take 7 rfl rfl rfl rfl (by kernel_rfl) (by kernel_rfl) (by kernel_rfl) rfl (by exact H) (fun w H => Ev.fieldAddr (fld_run rfl) rfl) ?_
          refine OPH.take 8 rfl rfl rfl rfl (by kernel_rfl) (by kernel_rfl) (by kernel_rfl) rfl (by exact H) (fun w H => Ev.load1 (agg_run rfl) rfl (by exact H.ldL 0 rfl _ rfl)) ?_
          refine OPH.take 9 rfl rfl rfl rfl (by kernel_rfl) (by kernel_rfl) (by kernel_rfl) rfl (by exact H) (fun w H => (by exact Ev.indexAddr1 (el_run rfl) (size_run rfl) rfl rfl rfl (by omega))) ?_
          refine OPH.take 11 rfl rfl rfl rfl (by kernel_rfl) (by kernel_rfl) (by kernel_rfl) rfl (by exact H) (fun w H => Ev.fieldAddr (fld_run rfl) rfl) ?_
          refine OPH.take 12 rfl rfl rfl rfl (by kernel_rfl) (by kernel_rfl) (by kernel_rfl) rfl (by exact H) (fun w H => Ev.load1 (agg_run rfl) rfl (by exact H.ldL 0 rfl _ rfl)) ?_
          refine OPH.take 14 rfl rfl rfl rfl (by kernel_rfl) (by kernel_rfl) (by kernel_rfl) rfl (by exact H) (fun w H => Ev.mvI rfl) ?_
          refine OPH.take 15 rfl rfl rfl rfl (by kernel_rfl) (by kernel_rfl) (by kernel_rfl) rfl (by exact H) (fun w H => Ev.neg rfl (by unfold fits; omega)) ?_
          refine OPH.take 16 rfl rfl rfl rfl (by kernel_rfl) (by kernel_rfl) (by kernel_rfl) rfl (by exact H) (fun w H => Ev.sub rfl rfl (by unfold fits; omega)) ?_
          refine OPH.all [10] (by kernel_rfl) (by simp) rfl ?_
          intro i hi; simp only [List.mem_cons, List.not_mem_nil, or_false] at hi
          rcases hi with rfl
          · refine ⟨_, rfl, ?_⟩
            try replace Hf := Hf.toBelow hbw17
            have hxb2 := (onesOwn Hf 1 rfl).atK (show b' < d.length by omega)
            refine OPS.val rfl rfl rfl (Ev.load1 (agg_run rfl) rfl hxb2) ?_
            refine OPS.nil ?_
            refine ⟨(by exact H), ?_⟩
            refine OPH.take 13 rfl rfl rfl rfl (by kernel_rfl) (by kernel_rfl) (by kernel_rfl) rfl (by exact H) (fun w H => Ev.sub rfl rfl (by unfold fits; omega)) ?_
            refine OPH.take 17 rfl rfl rfl rfl (by kernel_rfl) (by kernel_rfl) (by kernel_rfl) rfl (by exact H) (fun w H => (by exact Ev.indexAddr1 (el_run rfl) (size_run rfl) rfl rfl rfl (by omega))) ?_
            refine OPH.all [18] (by kernel_rfl) (by simp) rfl ?_
            intro i hi; simp only [List.mem_cons, List.not_mem_nil, or_false] at hi
            rcases hi with rfl
            · refine ⟨_, rfl, ?_⟩
              try replace Hf := Hf.toBelow hbw17
              refine OPS.store (vs := [I (d[b'] - l[j].cost)]) 1 _ rfl rfl rfl (size_run rfl) rfl (cI rfl) rfl rfl Hf rfl (by simp only [List.length_map]; omega) ?_
              clear H Hf; intro w Hf
              simp only [List.set_cons_zero, List.set_cons_succ] at Hf
              rw [hpu1] at Hf
              have H := Hf.reidx (L' := [⟨g13, 46, [I a, I b', I l[j].cap, I l[j].cost]⟩, ⟨g3, 24, [I n, .slice (some ⟨b, o, none⟩) l.length cap]⟩]) [0, 3] (by decide) rfl
              refine OPS.nil ?_
              refine ⟨(by exact H), ?_⟩
              refine OPH.take 19 rfl rfl rfl rfl (by kernel_rfl) (by kernel_rfl) (by kernel_rfl) rfl (by exact H) (fun w H => (by exact Ev.indexAddr1 (el_run rfl) (size_run rfl) rfl rfl rfl (by omega))) ?_
              refine OPH.all [20] (by kernel_rfl) (by simp) rfl ?_
              intro i hi; simp only [List.mem_cons, List.not_mem_nil, or_false] at hi
              rcases hi with rfl
              · refine ⟨_, rfl, ?_⟩
                try replace Hf := Hf.toBelow hbw17
                refine OPS.store (vs := [I (-(j : Int) - 1)]) 2 _ rfl rfl rfl (size_run rfl) rfl (cI rfl) rfl rfl Hf rfl (by simp only [List.length_map]; omega) ?_
                clear H Hf; intro w Hf
                simp only [List.set_cons_zero, List.set_cons_succ] at Hf
                rw [hpu2] at Hf
                have H := Hf.reidx (L' := [⟨g13, 46, [I a, I b', I l[j].cap, I l[j].cost]⟩, ⟨g3, 24, [I n, .slice (some ⟨b, o, none⟩) l.length cap]⟩]) [0, 3] (by decide) rfl
                refine OPS.nil ?_
                refine ⟨(by exact H), ?_⟩
                refine OPH.done (by kernel_rfl) ?_
                exact ⟨(by repeat (first | exact Agree.refl _ _ | exact Agree.mix _ _ _ | refine Agree.upd rfl ?_ | refine Agree.mix2 rfl ?_)), Hf⟩
        clear H
        rintro u4 w H
        have hnx : ∃ (d stp : List Int) (fin : List Bool) (T : Nat → Int), SH w0 [] w [⟨g13, 46, [I a, I b', I l[j].cap, I l[j].cost]⟩, ⟨gd, 3, d.map I⟩, ⟨gs, 3, stp.map I⟩, ⟨g3, 24, [I n, .slice (some ⟨b, o, none⟩) l.length cap]⟩] ∧ BFI l on n s K D rk r (fun i _ => i < j + 1) d stp fin T := by
          refine ⟨_, _, fin', T', H, hB2.mono fun i f u v r w _ hp => ?_⟩
          rcases Nat.lt_succ_iff_lt_or_eq.1 hp with hp | rfl
          · exact .inl (.inl hp)
          · cases f with
            | true => exact .inl (.inr ⟨rfl, rfl⟩)
            | false => exact .inr ⟨rfl, rfl⟩
        refine WP.region ?_
        refine OPS.val rfl rfl rfl (Ev.mvI rfl) ?_
        refine OPS.val rfl rfl rfl (Ev.add rfl rfl (by unfold fits; omega)) ?_
        refine OPS.val rfl rfl rfl (Ev.asI rfl) ?_
        refine OPS.nil ?_
        obtain ⟨d', stp', fin', T', H', hB'⟩ := hnx
        exact ⟨(by repeat (first | exact Agree.refl _ _ | exact Agree.mix _ _ _ | refine Agree.upd rfl ?_ | refine Agree.mix2 rfl ?_)), k2 - 1, by omega, j + 1, d', stp', fin', T', by omega, rfl, H'.drop (List.sublist_cons_self _ _), hB'⟩
      have hno : 0 < on[j] → ¬ (dAt d b' < farI ∧ dAt d b' + -l[j].cost < dAt d a) := by
        rw [hda, hdb]
        rintro q1 ⟨q2, q3⟩
        have q2 : d[b'] < 1099511627776 := q2
        simp [q1, q2] at hc16; omega
      have hnx : ∃ (d stp : List Int) (fin : List Bool) (T : Nat → Int), SH w0 [] w [⟨g13, 46, [I a, I b', I l[j].cap, I l[j].cost]⟩, ⟨gd, 3, d.map I⟩, ⟨gs, 3, stp.map I⟩, ⟨g3, 24, [I n, .slice (some ⟨b, o, none⟩) l.length cap]⟩] ∧ BFI l on n s K D rk r (fun i _ => i < j + 1) d stp fin T := by
        refine ⟨d, stp, fin, T, H, ?_⟩
        by_cases hlc : 0 < on[j]
        · refine (hB.keep hn2 hS (eB hlc) (hno hlc)).mono fun i f u v r w _ hp => ?_
          rcases Nat.lt_succ_iff_lt_or_eq.1 hp with hp | rfl
          · exact .inl (.inl hp)
          · cases f with
            | true => exact .inl (.inr ⟨rfl, rfl⟩)
            | false => exact .inr ⟨rfl, rfl⟩
        · exact hB.mono fun i f u v r w hE hp => by
            rcases Nat.lt_succ_iff_lt_or_eq.1 hp with hp | rfl
            · exact .inl hp
            · cases f with
              | true => exact .inr ⟨rfl, rfl⟩
              | false => obtain ⟨_, _, _, q⟩ := hE; exact absurd (q rfl).2.2.2.1 hlc
      refine WP.skip ?_
      refine WP.region ?_
      refine OPS.val rfl rfl rfl (Ev.mvI rfl) ?_
      refine OPS.val rfl rfl rfl (Ev.add rfl rfl (by unfold fits; omega)) ?_
      refine OPS.val rfl rfl rfl (Ev.asI rfl) ?_
      refine OPS.nil ?_
      obtain ⟨d', stp', fin', T', H', hB'⟩ := hnx
      exact ⟨(by repeat (first | exact Agree.refl _ _ | exact Agree.mix _ _ _ | refine Agree.upd rfl ?_ | refine Agree.mix2 rfl ?_)), k2 - 1, by omega, j + 1, d', stp', fin', T', by omega, rfl, H'.drop (List.sublist_cons_self _ _), hB'⟩
    have hjl : j = l.length := by simp at hc11; omega
    subst hjl
    refine WP.exit ?_
    refine XB.hit ?_
    refine WP.region ?_
    refine OPS.val rfl rfl rfl (Ev.mvI rfl) ?_
    refine OPS.val rfl rfl rfl (Ev.add rfl rfl (by unfold fits; omega)) ?_
    refine OPS.val rfl rfl rfl (Ev.asI rfl) ?_
    refine OPS.nil ?_
    exact ⟨(by repeat (first | exact Agree.refl _ _ | exact Agree.mix _ _ _ | refine Agree.upd rfl ?_ | refine Agree.mix2 rfl ?_)), k - 1, by omega, r + 1, d, stp, fin, T, by omega, rfl, H, hB.round hS⟩
  refine WP.exit ?_
  refine XB.hit ?_
  refine WP.seq ?_
  refine WP.region ?_
  refine OPS.val rfl rfl rfl (Ev.mvS rfl) ?_
  refine OPS.val rfl rfl rfl (Ev.mvS rfl) ?_
  refine OPS.val rfl rfl rfl (Ev.asS rfl) ?_
  refine OPS.val rfl rfl rfl (Ev.asS rfl) ?_
  refine OPS.nil ?_
  refine WP.ret ⟨_, rfl, ?_⟩
  have hrn : r = n := by simp at hc8; omega
  exact ⟨gd, gs, d, stp, T, rfl, hB.done hS hn2 (by omega), H.drop ((List.Sublist.cons_cons _ (List.Sublist.cons_cons _ (List.nil_sublist _))))⟩
end Go.Proofs.Ythegjmgljolalaa
