/-
  Walk: walk.
-/
import Derived.Test.YtfddebpeiilohaaT11
set_option linter.all false
namespace Go.Proofs.Ytfddebpeiilohaa
open Go Go.W Go.RowKit

theorem visitE_ok {d cap : Int} {x : Need} {s : TS} (h : visitE d cap x s = 0) : 0 ≤ d ∧ 0 ≤ s.load + x.move ∧ s.load + x.move ≤ cap := by
  unfold visitE at h
  split at h
  · cases h
  · split at h
    · rename_i h1 h2
      simp [inB] at h2
      omega
    · cases h
theorem TSOk.step {m j : Nat} {l : List Edg} {cap hd : Int} {x : Need} {s : TS} (h : TSOk m cap j s) (hok : RoadOk m l) (hx : (0 ≤ x.node ∧ x.node < m) ∧ x.move ≠ 0 ∧ -32 ≤ x.move ∧ x.move ≤ 32) (hh : 0 ≤ hd ∧ hd ≤ 3600) (hv : visitE (roadT m l s.at_ x.node.toNat) cap x s = 0) : TSOk m cap (j + 1) (visitT (roadT m l s.at_ x.node.toNat) hd x s) := by
  obtain ⟨h1, h2, h3⟩ := visitE_ok hv
  have hbd := roadT_bd hok h.at_ (v := x.node.toNat) (by omega)
  generalize roadT m l s.at_ x.node.toNat = d at *
  have hxa : 0 ≤ absI x.move ∧ absI x.move ≤ 32 := by unfold absI; split <;> omega
  have hmul : 0 ≤ absI x.move * hd ∧ absI x.move * hd ≤ 115200 := by
    refine ⟨Int.mul_nonneg hxa.1 hh.1, ?_⟩
    calc absI x.move * hd ≤ 32 * hd := Int.mul_le_mul_of_nonneg_right hxa.2 hh.1
      _ ≤ 115200 := by omega
  have := h.now
  have := h.driven
  refine ⟨?_, ?_, ?_, ?_⟩
  · show x.node.toNat < m; omega
  · show 0 ≤ s.now + d + absI x.move * hd ∧ s.now + d + absI x.move * hd ≤ 86400 + 200000 * ((j + 1 : Nat) : Int)
    omega
  · show 0 ≤ s.driven + d ∧ s.driven + d ≤ 64000 * ((j + 1 : Nat) : Int)
    omega
  · exact ⟨h2, h3⟩
theorem TSOk.start {m : Nat} {t : Truck} (h : (0 ≤ t.depot ∧ t.depot < m) ∧ (1 ≤ t.cap ∧ t.cap ≤ 32) ∧ 0 ≤ t.from_ ∧ t.from_ ≤ t.to_ ∧ t.to_ ≤ 86400) : TSOk m t.cap 0 (startT t) := by
  refine ⟨?_, ?_, ?_, ?_⟩
  · show t.depot.toNat < m; omega
  · show 0 ≤ t.from_ ∧ t.from_ ≤ 86400 + 200000 * ((0 : Nat) : Int); omega
  · show (0 : Int) ≤ 0 ∧ (0 : Int) ≤ 64000 * ((0 : Nat) : Int); omega
  · show (0 : Int) ≤ 0 ∧ 0 ≤ t.cap; omega

theorem rot3 {a b c : Blk} {Lo : List Blk} : ([a, b, c] ++ Lo).Perm (([b, c] ++ Lo) ++ [a]) := (List.perm_append_singleton a ([b, c] ++ Lo)).symm
theorem rot4 {v a b c : Blk} {Lo : List Blk} : (v :: (([b, c] ++ Lo) ++ [a])).Perm ([v, a, b, c] ++ Lo) := List.Perm.cons _ (List.perm_append_singleton a ([b, c] ++ Lo))
theorem truckWalkF (i : Int) (g k cc : Nat) (C : Option Addr) (w0 : World) (hk : k ≤ 1000) (hc : w0.cell? ⟨g, 3, none⟩ = some (.slice C k cc)) :
    Calls Try.prog 56 #[I i, .pointer (some ⟨g, 0, none⟩)] w0 fun e w' => e = .returned (.bool (outB k i)) ∧ Below w0.heap.size w0 w' := by
  have H := SH.refl w0
  refine Calls.ofWP Try.func56 rfl Try.results56 Try.ntmps56 rfl ?_
  refine WP.seq ?_
  refine WP.region ?_
  refine OPS.val rfl rfl rfl (Ev.asB rfl) ?_
  refine OPS.nil ?_
  refine WP.seq ?_
  refine WP.region ?_
  refine OPS.val rfl rfl rfl (Ev.mvI rfl) ?_
  refine OPS.val rfl rfl rfl (Ev.fieldAddr (fld_run rfl) rfl) ?_
  refine OPS.val rfl rfl rfl (Ev.load1 (agg_run rfl) rfl (by exact H.ld0 (by assumption))) ?_
  refine OPS.val rfl rfl rfl (Ev.len (el_run rfl) rfl) ?_
  refine OPS.val rfl rfl rfl (Ev.sub rfl rfl (by unfold fits; omega)) ?_
  refine OPS.call (d := some 9) rfl rfl rfl (EvC.func (fun_run rfl)) (truckIn _ _ _ _) ?_
  rintro _ w ⟨rfl, hb⟩
  refine ⟨_, rfl, ?_⟩
  replace H := H.toBelow hb; clear hb
  refine OPS.val rfl rfl rfl (Ev.not rfl) ?_
  refine OPS.val rfl rfl rfl (Ev.asB rfl) ?_
  refine OPS.nil ?_
  refine WP.ret ⟨_, rfl, ?_⟩
  exact ⟨rfl, H.below⟩

set_option maxHeartbeats 1000000 in
theorem truckWalk (n hd rt : Int) (A B C R : Option Addr) (l : List Edg) (ts : List Truck) (ns : List Need) (rn : List Int) (ca cb cc cr : Nat) (w0 : World) (hz : EdgsAt w0 A l) (ht : RowsAt 4 truckCells w0 B ts) (hn : RowsAt 2 needCells w0 C ns) (hcc : ns.length ≤ cc) (hr : IntsAt w0 R rn) (hrl : rn.length ≤ maxLen) (hrc : rn.length ≤ cr) :
    Calls Try.prog 32 #[.agg #[I n, .slice A l.length ca, .slice B ts.length cb, .slice C ns.length cc, I hd], .agg #[I rt, .slice R rn.length cr]] w0 fun e w' =>
      (walkE n l ts ns hd rt rn ≠ 0 → e = .returned (.tuple #[.pointer none, .slice none 0 0, I (walkE n l ts ns hd rt rn)]) ∧ SH w0 [] w' []) ∧
      (walkE n l ts ns hd rt rn = 0 → ∃ (g m : Nat) (V : Option Addr) (cv : Nat) (Lv : List Blk), n = m ∧ e = .returned (.tuple #[.pointer (some ⟨g, 0, none⟩), .slice V rn.length cv, I 0]) ∧ OwnS V cv rn.length ((walkV n l ts ns hd rt rn).flatMap visCells) 99 4 Lv ∧
        SH w0 [] w' ([⟨g, 70, tourCells (ts.getD rt.toNat default) (nightL m A B C l.length ts.length ns.length ca cb cc hd) (walkT n l ts ns hd rt rn)⟩] ++ Lv)) := by
  have H := SH.refl w0
  refine Calls.ofWP Try.func32 rfl Try.results32 Try.ntmps32 rfl ?_
  refine WP.seq ?_
  refine WP.region ?_
  refine OPS.box rfl rfl rfl rfl (cA rfl) H ?_
  clear H; intro g2 w H
  refine OPS.box rfl rfl rfl rfl (cA rfl) H ?_
  clear H; intro g3 w H
  refine OPS.val rfl rfl rfl (Ev.asP rfl) ?_
  refine OPS.val rfl rfl rfl (Ev.asS rfl) ?_
  refine OPS.val rfl rfl rfl (Ev.asI rfl) ?_
  refine OPS.nil ?_
  refine WP.seq ?_
  refine WP.seq ?_
  refine WP.region ?_
  refine OPS.val rfl rfl rfl ((by exact Ev.loadO 1 H rfl (agg_run rfl) (size_run rfl) (by rfl) rfl)) ?_
  refine OPS.call (d := some 16) rfl rfl rfl (EvC.func (fun_run rfl)) (truckCheck n hd A B C l ts ns ca cb cc w (hz.sh H) (ht.sh H) (hn.sh H) hcc) ?_
  rintro _ w ⟨rfl, hb⟩
  refine ⟨_, rfl, ?_⟩
  replace H := H.toBelow hb; clear hb
  refine OPS.val rfl rfl rfl (Ev.asI rfl) ?_
  refine OPS.nil ?_
  refine WP.seq ?_
  refine WP.region ?_
  refine OPS.val rfl rfl rfl (Ev.mvI rfl) ?_
  refine OPS.val rfl rfl rfl (Ev.neq rfl rfl) ?_
  refine OPS.nil ?_
  refine WP.cond rfl (fun hc2 => ?_) (fun hc2 => ?_)
  · refine WP.seq ?_
    refine WP.region ?_
    refine OPS.val rfl rfl rfl (Ev.mvI rfl) ?_
    refine OPS.val rfl rfl rfl (Ev.asP rfl) ?_
    refine OPS.val rfl rfl rfl (Ev.asS rfl) ?_
    refine OPS.val rfl rfl rfl (Ev.asI rfl) ?_
    refine OPS.nil ?_
    refine WP.ret ⟨_, rfl, ?_⟩
    have h : nightErr n l ts ns hd ≠ 0 := by simpa using hc2
    have he : walkE n l ts ns hd rt rn = nightErr n l ts ns hd := by rw [walkE, if_pos h]
    rw [he]
    exact ⟨fun _ => ⟨rfl, H.reidx [] (by decide) rfl⟩, fun h2 => absurd h2 h⟩
  have h0 : nightErr n l ts ns hd = 0 := by simpa using hc2
  obtain ⟨m, rfl, hN⟩ := nightOk_of h0
  have htl := hN.tl
  have hnl := hN.nl
  have hh := hN.hh
  refine WP.skip ?_
  refine WP.seq ?_
  refine WP.seq ?_
  refine WP.region ?_
  refine OPS.val rfl rfl rfl (Ev.fieldAddr (fld_run rfl) rfl) ?_
  refine OPS.val rfl rfl rfl (Ev.load1 (agg_run rfl) rfl (by exact H.ldL 0 rfl _ rfl)) ?_
  refine OPS.val rfl rfl rfl (Ev.fieldAddr (fld_run rfl) rfl) ?_
  refine OPS.val rfl rfl rfl (Ev.load1 (agg_run rfl) rfl (by exact H.ldL 1 rfl _ rfl)) ?_
  refine OPS.val rfl rfl rfl (Ev.len (el_run rfl) rfl) ?_
  refine OPS.val rfl rfl rfl (Ev.sub rfl rfl (by unfold fits; omega)) ?_
  refine OPS.call (d := some 26) rfl rfl rfl (EvC.func (fun_run rfl)) (truckIn _ _ _ _) ?_
  rintro _ w ⟨rfl, hb⟩
  refine ⟨_, rfl, ?_⟩
  replace H := H.toBelow hb; clear hb
  refine OPS.val rfl rfl rfl (Ev.not rfl) ?_
  refine OPS.val rfl rfl rfl (Ev.mvB rfl) ?_
  refine OPS.gval rfl rfl rfl rfl rfl (fun hg => Ev.fieldAddr (fld_run rfl) (by rfl)) ?_
  refine OPS.gval rfl rfl rfl rfl rfl (fun hg => Ev.load1 (agg_run rfl) (by exact gvE hg rfl) (by exact H.ldL 0 rfl _ rfl)) ?_
  refine OPS.gval rfl rfl rfl rfl rfl (fun hg => Ev.makeFunc) ?_
  refine OPS.gcall0 (f := 36) (slContainsFuncI R rn cr _ [.pointer (some ⟨g2, 0, none⟩)] (outB ns.length) _ (hr.sh H) hrl rfl (fun i _ w2 hb => truckWalkF i g2 ns.length cc C w2 (by omega) (cell_below hb (H.ldL 1 rfl 3 rfl)))) (fun _ _ h => h) rfl rfl rfl rfl rfl (fun hg => EvC.conv (EvC.func (fun_run rfl)) (l2 (by exact gvE hg rfl) (by exact gvE hg rfl))) ?_
  intro w hbc; replace H := H.toBelow hbc
  refine OPS.val rfl rfl rfl ((by exact Ev.pickOr rfl rfl rfl)) ?_
  refine OPS.nil ?_
  refine WP.cond rfl (fun hc4 => ?_) (fun hc4 => ?_)
  · refine WP.seq ?_
    refine WP.region ?_
    refine OPS.val rfl rfl rfl (Ev.asP rfl) ?_
    refine OPS.val rfl rfl rfl (Ev.asS rfl) ?_
    refine OPS.val rfl rfl rfl (Ev.asI rfl) ?_
    refine OPS.nil ?_
    refine WP.ret ⟨_, rfl, ?_⟩
    have he : routeErr ts ns rt rn = 7 := by
      unfold routeErr
      rw [if_pos]
      simpa [outB] using hc4
    have hw : walkE m l ts ns hd rt rn = 7 := by rw [walkE, if_neg (by simp [h0]), if_pos (by rw [he]; decide), he]
    rw [hw]
    exact ⟨fun _ => ⟨rfl, H.reidx [] (by decide) rfl⟩, fun h2 => absurd h2 (by decide)⟩
  refine WP.skip ?_
  refine WP.seq ?_
  refine WP.seq ?_
  refine WP.region ?_
  refine OPS.val rfl rfl rfl (Ev.fieldAddr (fld_run rfl) rfl) ?_
  refine OPS.val rfl rfl rfl (Ev.load1 (agg_run rfl) rfl (by exact H.ldL 0 rfl _ rfl)) ?_
  refine OPS.call (d := some 36) rfl rfl rfl (EvC.func (fun_run rfl)) (truckTwice R rn cr _ (hr.sh H) hrl hrc) ?_
  rintro _ w ⟨rfl, hb⟩
  refine ⟨_, rfl, ?_⟩
  replace H := H.toBelow hb; clear hb
  refine OPS.nil ?_
  refine WP.cond rfl (fun hc6 => ?_) (fun hc6 => ?_)
  · refine WP.seq ?_
    refine WP.region ?_
    refine OPS.val rfl rfl rfl (Ev.asP rfl) ?_
    refine OPS.val rfl rfl rfl (Ev.asS rfl) ?_
    refine OPS.val rfl rfl rfl (Ev.asI rfl) ?_
    refine OPS.nil ?_
    refine WP.ret ⟨_, rfl, ?_⟩
    have he : routeErr ts ns rt rn = 6 := by
      unfold routeErr
      rw [if_neg (by simpa [outB] using hc4), if_pos hc6]
    have hw : walkE m l ts ns hd rt rn = 6 := by rw [walkE, if_neg (by simp [h0]), if_pos (by rw [he]; decide), he]
    rw [hw]
    exact ⟨fun _ => ⟨rfl, H.reidx [] (by decide) rfl⟩, fun h2 => absurd h2 (by decide)⟩
  have he0 : routeErr ts ns rt rn = 0 := by
    unfold routeErr
    rw [if_neg (by simpa [outB] using hc4), if_neg (by simpa using hc6)]
  obtain ⟨hrt, hrr, hrd, hrlen⟩ := routeOk_of he0
  obtain ⟨q, rfl⟩ := Int.eq_ofNat_of_zero_le hrt.1
  have hq : q < ts.length := by omega
  have hgt : ts.getD (q : Int).toNat default = ts[q] := by simp [hq]
  obtain ⟨bt, ot, rfl, htc⟩ := ht q hq
  have htr := hN.tr ts[q] (List.getElem_mem hq)
  rw [hgt]
  have hw : walkE m l ts ns hd q rn = if goE (roadD m l) ts[q].cap hd ns rn (startT ts[q]) ≠ 0 then goE (roadD m l) ts[q].cap hd ns rn (startT ts[q]) else homeE (roadD m l (goT (roadD m l) hd ns rn (startT ts[q])).at_ ts[q].depot.toNat) hd ts[q] (goT (roadD m l) hd ns rn (startT ts[q])) := by
    rw [walkE, if_neg (by simp [h0]), if_neg (by simp [he0])]
    unfold endT
    rw [hgt]
  have hwT : walkT m l ts ns hd q rn = homeT (roadD m l (goT (roadD m l) hd ns rn (startT ts[q])).at_ ts[q].depot.toNat) hd ts[q] (goT (roadD m l) hd ns rn (startT ts[q])) := by
    unfold walkT endT
    rw [hgt]
  have hwV : walkV m l ts ns hd q rn = goV (roadD m l) hd ns rn (startT ts[q]) := by
    unfold walkV
    rw [hgt]
  rw [hw, hwT, hwV]
  clear hw hwT hwV
  obtain ⟨dv, hdv⟩ := Int.eq_ofNat_of_zero_le htr.1.1
  generalize htt : ts[q] = t at *
  refine WP.skip ?_
  refine WP.seq ?_
  refine WP.rtail 8 mixed (by kernel_rfl) H ?_
  clear H; intro w hbw8 H
  refine OPS.val rfl rfl rfl (Ev.fieldAddr (fld_run rfl) rfl) ?_
  refine OPS.val rfl rfl rfl (Ev.load1 (agg_run rfl) rfl (by exact H.ldL 1 rfl _ rfl)) ?_
  refine OPS.val rfl rfl rfl (Ev.fieldAddr (fld_run rfl) rfl) ?_
  refine OPS.val rfl rfl rfl (Ev.load1 (agg_run rfl) rfl (by exact H.ldL 0 rfl _ rfl)) ?_
  refine OPS.val rfl rfl rfl ((by exact Ev.indexAddr (el_run rfl) (size_run rfl) rfl rfl rfl (by omega))) ?_
  have htc' := cellsAt_sh H htc
  refine OPS.val rfl rfl rfl ((by (change Ev _ _ _ _ (Op.load 54 (Operand.tmp 41)) _; exact Ev.loadN (truckCells t) (agg_run rfl) (size_run rfl) rfl htc'))) ?_
  refine OPS.val rfl rfl rfl ((by exact Ev.loadO 1 H rfl (agg_run rfl) (size_run rfl) (by rfl) rfl)) ?_
  refine OPS.val rfl rfl rfl (Ev.build (bld_70_0_1 rfl rfl)) ?_
  refine OPS.nil_s ?_
  refine OPS.box rfl rfl rfl rfl (cA rfl) H ?_
  clear H; intro g45 w H
  refine OPS.val rfl rfl rfl (Ev.asP rfl) ?_
  refine OPS.nil ?_
  refine WP.seq ?_
  have Hf := H
  replace H := H.drop (L' := [_, _]) (List.sublist_cons_self _ _)
  refine WP.rheldC [46, 47, 48, 49, 50, 51, 52, 53, 54, 55, 56, 57, 58, 59, 60, 61, 62] (fun _ w' => SH w0 [] w' [⟨g45, 70, tourCells t (nightL m A (some ⟨bt, ot, none⟩) C l.length ts.length ns.length ca cb cc hd) (startT t)⟩, ⟨g3, 34, [I q, .slice R rn.length cr]⟩, ⟨g2, 28, [I m, .slice A l.length ca, .slice (some ⟨bt, ot, none⟩) ts.length cb, .slice C ns.length cc, I hd]⟩]) mixed H ?_ ?_
  · clear H; intro w hbw9 H
    refine OPH.take 0 rfl rfl rfl rfl (by kernel_rfl) (by kernel_rfl) (by kernel_rfl) rfl (by exact H) (fun w H => Ev.mvP rfl) ?_
    refine OPH.take 1 rfl rfl rfl rfl (by kernel_rfl) (by kernel_rfl) (by kernel_rfl) rfl (by exact H) (fun w H => Ev.mvP rfl) ?_
    refine OPH.take 2 rfl rfl rfl rfl (by kernel_rfl) (by kernel_rfl) (by kernel_rfl) rfl (by exact H) (fun w H => Ev.mvP rfl) ?_
    refine OPH.take 3 rfl rfl rfl rfl (by kernel_rfl) (by kernel_rfl) (by kernel_rfl) rfl (by exact H) (fun w H => (by exact Ev.nilCheckP rfl)) ?_
    refine OPH.take 4 rfl rfl rfl rfl (by kernel_rfl) (by kernel_rfl) (by kernel_rfl) rfl (by exact H) (fun w H => Ev.fieldAddr (fld_run rfl) rfl) ?_
    refine OPH.take 5 rfl rfl rfl rfl (by kernel_rfl) (by kernel_rfl) (by kernel_rfl) rfl (by exact H) (fun w H => Ev.fieldAddr (fld_run rfl) rfl) ?_
    refine OPH.take 7 rfl rfl rfl rfl (by kernel_rfl) (by kernel_rfl) (by kernel_rfl) rfl (by exact H) (fun w H => Ev.mvP rfl) ?_
    refine OPH.take 8 rfl rfl rfl rfl (by kernel_rfl) (by kernel_rfl) (by kernel_rfl) rfl (by exact H) (fun w H => (by exact Ev.nilCheckP rfl)) ?_
    refine OPH.take 9 rfl rfl rfl rfl (by kernel_rfl) (by kernel_rfl) (by kernel_rfl) rfl (by exact H) (fun w H => Ev.fieldAddr (fld_run rfl) rfl) ?_
    refine OPH.take 10 rfl rfl rfl rfl (by kernel_rfl) (by kernel_rfl) (by kernel_rfl) rfl (by exact H) (fun w H => Ev.fieldAddr (fld_run rfl) rfl) ?_
    refine OPH.take 11 rfl rfl rfl rfl (by kernel_rfl) (by kernel_rfl) (by kernel_rfl) rfl (by exact H) (fun w H => Ev.fieldAddr (fld_run rfl) rfl) ?_
    refine OPH.all [6, 12] (by kernel_rfl) (by simp) rfl ?_
    intro i hi; simp only [List.mem_cons, List.not_mem_nil, or_false] at hi
    rcases hi with rfl | rfl
    · refine ⟨_, rfl, ?_⟩
      try replace Hf := Hf.toBelow hbw9
      refine OPS.val rfl rfl rfl (Ev.load1 (agg_run rfl) rfl (Hf.ldL 0 rfl _ rfl)) ?_
      refine OPS.nil ?_
      refine ⟨(by exact H), ?_⟩
      refine OPH.all [12] (by kernel_rfl) (by simp) rfl ?_
      intro i hi; simp only [List.mem_cons, List.not_mem_nil, or_false] at hi
      rcases hi with rfl
      · refine ⟨_, rfl, ?_⟩
        try replace Hf := Hf.toBelow hbw9
        refine OPS.val rfl rfl rfl (Ev.load1 (agg_run rfl) rfl (Hf.ldL 0 rfl _ rfl)) ?_
        refine OPS.nil ?_
        refine ⟨(by exact H), ?_⟩
        refine OPH.take 13 rfl rfl rfl rfl (by kernel_rfl) (by kernel_rfl) (by kernel_rfl) rfl (by exact H) (fun w H => (by exact Ev.nilCheckP rfl)) ?_
        refine OPH.take 14 rfl rfl rfl rfl (by kernel_rfl) (by kernel_rfl) (by kernel_rfl) rfl (by exact H) (fun w H => Ev.fieldAddr (fld_run rfl) rfl) ?_
        refine OPH.all [15] (by kernel_rfl) (by simp) rfl ?_
        intro i hi; simp only [List.mem_cons, List.not_mem_nil, or_false] at hi
        rcases hi with rfl
        · refine ⟨_, rfl, ?_⟩
          try replace Hf := Hf.toBelow hbw9
          refine OPS.store 0 _ rfl rfl rfl (size_run rfl) rfl (cI rfl) rfl rfl Hf rfl (by simp) ?_
          clear H Hf; intro w Hf
          simp only [List.set_cons_zero, List.set_cons_succ, putL, Nat.zero_add] at Hf
          have H := Hf.drop (L' := [_, _]) (List.sublist_cons_self _ _)
          refine OPS.nil ?_
          refine ⟨(by exact H), ?_⟩
          refine OPH.take 16 rfl rfl rfl rfl (by kernel_rfl) (by kernel_rfl) (by kernel_rfl) rfl (by exact H) (fun w H => (by exact Ev.nilCheckP rfl)) ?_
          refine OPH.take 17 rfl rfl rfl rfl (by kernel_rfl) (by kernel_rfl) (by kernel_rfl) rfl (by exact H) (fun w H => Ev.fieldAddr (fld_run rfl) rfl) ?_
          refine OPH.all [18] (by kernel_rfl) (by simp) rfl ?_
          intro i hi; simp only [List.mem_cons, List.not_mem_nil, or_false] at hi
          rcases hi with rfl
          · refine ⟨_, rfl, ?_⟩
            try replace Hf := Hf.toBelow hbw9
            refine OPS.store 0 _ rfl rfl rfl (size_run rfl) rfl (cI rfl) rfl rfl Hf rfl (by simp) ?_
            clear H Hf; intro w Hf
            simp only [List.set_cons_zero, List.set_cons_succ, putL, Nat.zero_add] at Hf
            have H := Hf.drop (L' := [_, _]) (List.sublist_cons_self _ _)
            refine OPS.nil ?_
            refine ⟨(by exact H), ?_⟩
            refine OPH.done (by kernel_rfl) ?_
            exact ⟨(by repeat (first | exact Agree.refl _ _ | exact Agree.mix _ _ _ | refine Agree.upd rfl ?_ | refine Agree.mix2 rfl ?_)), (by rw [hdv] at Hf; unfold startT tourCells truckCells; rw [hdv, Int.toNat_natCast]; exact Hf)⟩
    · refine ⟨_, rfl, ?_⟩
      try replace Hf := Hf.toBelow hbw9
      refine OPS.val rfl rfl rfl (Ev.load1 (agg_run rfl) rfl (Hf.ldL 0 rfl _ rfl)) ?_
      refine OPS.nil ?_
      refine ⟨(by exact H), ?_⟩
      refine OPH.all [6] (by kernel_rfl) (by simp) rfl ?_
      intro i hi; simp only [List.mem_cons, List.not_mem_nil, or_false] at hi
      rcases hi with rfl
      · refine ⟨_, rfl, ?_⟩
        try replace Hf := Hf.toBelow hbw9
        refine OPS.val rfl rfl rfl (Ev.load1 (agg_run rfl) rfl (Hf.ldL 0 rfl _ rfl)) ?_
        refine OPS.nil ?_
        refine ⟨(by exact H), ?_⟩
        refine OPH.take 13 rfl rfl rfl rfl (by kernel_rfl) (by kernel_rfl) (by kernel_rfl) rfl (by exact H) (fun w H => (by exact Ev.nilCheckP rfl)) ?_
        refine OPH.take 14 rfl rfl rfl rfl (by kernel_rfl) (by kernel_rfl) (by kernel_rfl) rfl (by exact H) (fun w H => Ev.fieldAddr (fld_run rfl) rfl) ?_
        refine OPH.all [15] (by kernel_rfl) (by simp) rfl ?_
        intro i hi; simp only [List.mem_cons, List.not_mem_nil, or_false] at hi
        rcases hi with rfl
        · refine ⟨_, rfl, ?_⟩
          try replace Hf := Hf.toBelow hbw9
          refine OPS.store 0 _ rfl rfl rfl (size_run rfl) rfl (cI rfl) rfl rfl Hf rfl (by simp) ?_
          clear H Hf; intro w Hf
          simp only [List.set_cons_zero, List.set_cons_succ, putL, Nat.zero_add] at Hf
          have H := Hf.drop (L' := [_, _]) (List.sublist_cons_self _ _)
          refine OPS.nil ?_
          refine ⟨(by exact H), ?_⟩
          refine OPH.take 16 rfl rfl rfl rfl (by kernel_rfl) (by kernel_rfl) (by kernel_rfl) rfl (by exact H) (fun w H => (by exact Ev.nilCheckP rfl)) ?_
          refine OPH.take 17 rfl rfl rfl rfl (by kernel_rfl) (by kernel_rfl) (by kernel_rfl) rfl (by exact H) (fun w H => Ev.fieldAddr (fld_run rfl) rfl) ?_
          refine OPH.all [18] (by kernel_rfl) (by simp) rfl ?_
          intro i hi; simp only [List.mem_cons, List.not_mem_nil, or_false] at hi
          rcases hi with rfl
          · refine ⟨_, rfl, ?_⟩
            try replace Hf := Hf.toBelow hbw9
            refine OPS.store 0 _ rfl rfl rfl (size_run rfl) rfl (cI rfl) rfl rfl Hf rfl (by simp) ?_
            clear H Hf; intro w Hf
            simp only [List.set_cons_zero, List.set_cons_succ, putL, Nat.zero_add] at Hf
            have H := Hf.drop (L' := [_, _]) (List.sublist_cons_self _ _)
            refine OPS.nil ?_
            refine ⟨(by exact H), ?_⟩
            refine OPH.done (by kernel_rfl) ?_
            exact ⟨(by repeat (first | exact Agree.refl _ _ | exact Agree.mix _ _ _ | refine Agree.upd rfl ?_ | refine Agree.mix2 rfl ?_)), (by rw [hdv] at Hf; unfold startT tourCells truckCells; rw [hdv, Int.toNat_natCast]; exact Hf)⟩
  clear H
  rintro u w H
  refine WP.seq ?_
  refine WP.region ?_
  refine OPS.val rfl rfl rfl (Ev.asS rfl) ?_
  refine OPS.nil ?_
  refine WP.seq ?_
  refine WP.seq ?_
  refine WP.region ?_
  refine OPS.val rfl rfl rfl (Ev.fieldAddr (fld_run rfl) rfl) ?_
  refine OPS.val rfl rfl rfl (Ev.load1 (agg_run rfl) rfl (by exact H.ldL 1 rfl _ rfl)) ?_
  refine OPS.val rfl rfl rfl (Ev.len (el_run rfl) rfl) ?_
  refine OPS.val rfl rfl rfl (Ev.mvI rfl) ?_
  refine OPS.nil ?_
  refine WP.block ?_
  refine WP.loop [4, 5, 6, 9, 11, 12, 13, 66, 67, 68, 69, 70, 71, 72, 73, 74, 75, 76, 77, 78, 79, 80, 81, 82, 83] (fun k e w' => ∃ (j : Nat) (s : TS) (V : Option Addr) (cv : Nat) (Lo : List Blk), j + k = rn.length ∧ e 66 = I j ∧ e 9 = .slice V j cv ∧ OwnS V cv j ((goV (roadD m l) hd ns (rn.take j) (startT t)).flatMap visCells) 99 4 Lo ∧ goT (roadD m l) hd ns (rn.take j) (startT t) = s ∧ goE (roadD m l) t.cap hd ns (rn.take j) (startT t) = 0 ∧ TSOk m t.cap j s ∧ SH w0 [] w' ([⟨g45, 70, tourCells t (nightL m A (some ⟨bt, ot, none⟩) C l.length ts.length ns.length ca cb cc hd) (s)⟩, ⟨g3, 34, [I q, .slice R rn.length cr]⟩, ⟨g2, 28, [I m, .slice A l.length ca, .slice (some ⟨bt, ot, none⟩) ts.length cb, .slice C ns.length cc, I hd]⟩] ++ Lo)) (rn.length) (⟨0, startT t, none, 0, [], by omega, rfl, rfl, OwnS.nil, rfl, rfl, TSOk.start htr, by simpa using H⟩) ?_
  clear H
  rintro k u w ⟨j, s, V, cv, Lo, hk, h66, h9, hO, hgT, hgE, hS, H⟩
  refine WP.know (t := 66) h66 (WP.know (t := 9) h9 ?_)
  have hg45 : w0.heap.size ≤ g45 := by
    rcases H.may ⟨g45, 70, tourCells t (nightL m A (some ⟨bt, ot, none⟩) C l.length ts.length ns.length ca cb cc hd) (s)⟩ (by simp) with h | h
    · exact h
    · cases h
  have hA : l ≠ [] → Off A [g45] := hz.off (fun x => by simp [edgCells]) (fun g hg => by simp at hg; subst hg; exact hg45)
  have hC : ns ≠ [] → Off C [g45] := hn.off (fun x => by simp [needCells]) (fun g hg => by simp at hg; subst hg; exact hg45)
  have hjn : j ≤ 16 := by omega
  have hSn := hS.now
  have hSd := hS.driven
  have hSl := hS.load
  have htc2 := htr.2.1
  refine WP.seq ?_
  refine WP.region ?_
  refine OPS.val rfl rfl rfl (Ev.lss rfl rfl) ?_
  refine OPS.nil ?_
  refine WP.seq ?_
  refine WP.cond rfl (fun hc12 => ?_) (fun hc12 => ?_)
  · have hlt : j < rn.length := by simp at hc12; omega
    obtain ⟨hi0, hi1⟩ := hrr rn[j] (List.getElem_mem hlt)
    obtain ⟨ni, hni⟩ := Int.eq_ofNat_of_zero_le hi0
    have hnl2 : ni < ns.length := by omega
    have hnx := hN.nd ns[ni] (List.getElem_mem hnl2)
    obtain ⟨br, orr, rfl, hx⟩ := hr j hlt
    rw [hni] at hx
    have hna : needAt ns rn[j] = ns[ni] := by rw [hni]; simp [needAt, hnl2]
    have hgD : goD (roadD m l) ns rn[j] s = roadT m l s.at_ ns[ni].node.toNat := by unfold goD roadD; rw [hna]; simp
    have htk : rn.take (j + 1) = rn.take j ++ [rn[j]] := List.take_succ_eq_append_getElem hlt
    have hE1 : goE (roadD m l) t.cap hd ns (rn.take (j + 1)) (startT t) = visitE (roadT m l s.at_ ns[ni].node.toNat) t.cap ns[ni] s := by
      rw [htk, goE_app, hgE, hgT]
      simp only [goE, hgD, hna]
      by_cases h : visitE (roadT m l s.at_ ns[ni].node.toNat) t.cap ns[ni] s = 0 <;> simp [h]
    refine WP.skip ?_
    refine WP.seq ?_
    refine WP.block ?_
    refine WP.seq ?_
    refine WP.region ?_
    refine OPS.val rfl rfl rfl ((by exact Ev.indexAddr1 (el_run rfl) (size_run rfl) rfl rfl rfl (by omega))) ?_
    refine OPS.val rfl rfl rfl (Ev.load1 (agg_run rfl) rfl (by exact H.ld0 (by assumption))) ?_
    refine OPS.val rfl rfl rfl (Ev.asI rfl) ?_
    refine OPS.nil ?_
    refine WP.seq ?_
    replace H := H.perm rot3
    refine WP.region ?_
    refine OPS.val rfl rfl rfl (Ev.mvP rfl) ?_
    refine OPS.val rfl rfl rfl (Ev.mvI rfl) ?_
    refine OPS.call (d := some 73) rfl rfl rfl (EvC.func (fun_run rfl)) (tourVisit g45 m ni A (some ⟨bt, ot, none⟩) C l ns ts.length ca cb cc hd t s w [g45] hN.road hS.at_ (by omega) hnl2 (by omega) hh (hz.sh H) hA (hn.sh H) hC (H.restart (Lv := [_]) (List.sublist_append_right _ _)) rfl) ?_
    rintro _ w ⟨rfl, hg, Lx, Hx⟩
    refine ⟨_, rfl, ?_⟩
    obtain ⟨L', hL', HL⟩ : ∃ L' : List Blk, (visitE (roadT m l s.at_ ns[ni].node.toNat) t.cap ns[ni] s = 0 → L' = [⟨g45, 70, tourCells t (nightL m A (some ⟨bt, ot, none⟩) C l.length ts.length ns.length ca cb cc hd) (visitT (roadT m l s.at_ ns[ni].node.toNat) hd ns[ni] s)⟩]) ∧ SH _ [g45] w L' := by
      by_cases h : visitE (roadT m l s.at_ ns[ni].node.toNat) t.cap ns[ni] s = 0
      · exact ⟨_, fun _ => rfl, hg h⟩
      · exact ⟨Lx, fun h2 => absurd h2 h, Hx⟩
    replace H := SH.call (L1 := [_, _] ++ Lo) (Lv := [_]) H HL
    clear hg Hx HL
    refine OPS.val rfl rfl rfl (Ev.mvT rfl) ?_
    refine OPS.val rfl rfl rfl (Ev.extract rfl rfl) ?_
    refine OPS.val rfl rfl rfl (Ev.extract rfl rfl) ?_
    refine OPS.alloc rfl rfl rfl rfl (zero_run rfl) rfl H ?_
    clear H; intro g12 w H
    refine OPS.store 0 _ rfl rfl rfl (size_run rfl) rfl (cA rfl) rfl rfl H rfl (by simp) ?_
    clear H; intro w H; try simp only [List.set_cons_zero, List.set_cons_succ, putL, Nat.zero_add] at H
    refine OPS.val rfl rfl rfl (Ev.asI rfl) ?_
    refine OPS.nil ?_
    refine WP.seq ?_
    refine WP.seq ?_
    refine WP.region ?_
    refine OPS.val rfl rfl rfl (Ev.mvI rfl) ?_
    refine OPS.val rfl rfl rfl (Ev.neq rfl rfl) ?_
    refine OPS.nil ?_
    refine WP.cond rfl (fun hc15 => ?_) (fun hc15 => ?_)
    · have hv : visitE (roadT m l s.at_ ns[ni].node.toNat) t.cap ns[ni] s ≠ 0 := by simpa using hc15
      have hEn : goE (roadD m l) t.cap hd ns rn (startT t) = visitE (roadT m l s.at_ ns[ni].node.toNat) t.cap ns[ni] s := by
        have h := goE_app (roadD m l) t.cap hd ns (rn.take (j + 1)) (rn.drop (j + 1)) (startT t)
        rw [List.take_append_drop, hE1, if_pos hv] at h; exact h
      refine WP.seq ?_
      refine WP.region ?_
      refine OPS.val rfl rfl rfl (Ev.mvI rfl) ?_
      refine OPS.val rfl rfl rfl (Ev.asP rfl) ?_
      refine OPS.val rfl rfl rfl (Ev.asS rfl) ?_
      refine OPS.val rfl rfl rfl (Ev.asI rfl) ?_
      refine OPS.nil ?_
      refine WP.ret ⟨_, rfl, ?_⟩
      rw [hEn, if_pos hv]
      exact ⟨fun _ => ⟨rfl, H.reidx [] (by decide) rfl⟩, fun h2 => absurd h2 hv⟩
    have hv : visitE (roadT m l s.at_ ns[ni].node.toNat) t.cap ns[ni] s = 0 := by simpa using hc15
    rw [hL' hv, if_pos hv] at H
    replace H := H.perm rot4
    have hS1 := hS.step hN.road hnx hh hv
    refine WP.skip ?_
    refine WP.region ?_
    refine OPS.val rfl rfl rfl (Ev.mvS rfl) ?_
    refine OPS.val rfl rfl rfl ((by exact Ev.loadO 0 H rfl (agg_run rfl) (size_run rfl) (by rfl) rfl)) ?_
    refine OPS.buildSlice rfl rfl rfl rfl (bsl_66_1_0 rfl) H ?_
    clear H; intro g81 w H
    refine OPS.append (m := 1) (news := visCells (visitV (roadT m l s.at_ ns[ni].node.toNat) hd ni ns[ni] s)) (R := [⟨g81, 99, visCells (visitV (roadT m l s.at_ ns[ni].node.toNat) hd ni ns[ni] s)⟩, ⟨g12, 99, visCells (visitV (roadT m l s.at_ ns[ni].node.toNat) hd ni ns[ni] s)⟩, ⟨g45, 70, tourCells t (nightL m A (some ⟨bt, ot, none⟩) C l.length ts.length ns.length ca cb cc hd) (visitT (roadT m l s.at_ ns[ni].node.toNat) hd ns[ni] s)⟩, ⟨g3, 34, [I q, .slice (some ⟨br, orr, none⟩) rn.length cr]⟩, ⟨g2, 28, [I m, .slice A l.length ca, .slice (some ⟨bt, ot, none⟩) ts.length cb, .slice C ns.length cc, I hd]⟩]) rfl rfl rfl rfl rfl (sl_run rfl) rfl rfl hO rfl (src_own H 0 rfl) rfl (by omega) (by unfold maxLen; omega) H (List.Perm.refl _) ?_
    clear H hO; intro V cv Lo w hO H
    refine OPS.val rfl rfl rfl (Ev.asS rfl) ?_
    refine OPS.nil ?_
    refine WP.region ?_
    refine OPS.val rfl rfl rfl (Ev.add rfl rfl (by unfold fits; omega)) ?_
    refine OPS.val rfl rfl rfl (Ev.mvI rfl) ?_
    refine OPS.nil ?_
    have hT1 : goT (roadD m l) hd ns (rn.take (j + 1)) (startT t) = visitT (roadT m l s.at_ ns[ni].node.toNat) hd ns[ni] s := by rw [htk, goT_app, hgT]; simp only [goT, hgD, hna]
    have hV1 : goV (roadD m l) hd ns (rn.take (j + 1)) (startT t) = goV (roadD m l) hd ns (rn.take j) (startT t) ++ [visitV (roadT m l s.at_ ns[ni].node.toNat) hd ni ns[ni] s] := by rw [htk, goV_app, hgT]; (simp only [goV, hgD, hna]; rw [hni])
    exact ⟨(by repeat (first | exact Agree.refl _ _ | exact Agree.mix _ _ _ | refine Agree.upd rfl ?_ | refine Agree.mix2 rfl ?_)), k - 1, by omega, j + 1, visitT (roadT m l s.at_ ns[ni].node.toNat) hd ns[ni] s, V, cv, Lo, by omega, rfl, rfl, (by rw [hV1, List.flatMap_append]; simpa using hO), hT1, (by rw [hE1]; exact hv), hS1, H.drop (((List.Sublist.refl _).cons _).cons _)⟩
  have hj : j = rn.length := by simp at hc12; omega
  subst hj
  rw [List.take_length] at hgT hgE hO
  rw [hgE, if_neg (by simp), hgT, show roadD m l s.at_ t.depot.toNat = roadT m l s.at_ t.depot.toNat from by unfold roadD; simp]
  replace H := H.perm rot3
  refine WP.exit ?_
  refine XB.hit ?_
  refine WP.seq ?_
  refine WP.seq ?_
  refine WP.region ?_
  refine OPS.val rfl rfl rfl (Ev.mvP rfl) ?_
  refine OPS.call (d := some 85) rfl rfl rfl (EvC.func (fun_run rfl)) (tourHome g45 m A (some ⟨bt, ot, none⟩) C l ts.length ns.length ca cb cc hd t s w hN.road hS.at_ (by omega) htr.1 hh (hz.sh H) hA (H.restart (Lv := [_]) (List.sublist_append_right _ _))) ?_
  rintro _ w ⟨rfl, hg, Lx, Hx⟩
  refine ⟨_, rfl, ?_⟩
  obtain ⟨L', hL', HL⟩ : ∃ L' : List Blk, (homeE (roadT m l s.at_ t.depot.toNat) hd t s = 0 → L' = [⟨g45, 70, tourCells t (nightL m A (some ⟨bt, ot, none⟩) C l.length ts.length ns.length ca cb cc hd) (homeT (roadT m l s.at_ t.depot.toNat) hd t s)⟩]) ∧ SH _ [g45] w L' := by
    by_cases h : homeE (roadT m l s.at_ t.depot.toNat) hd t s = 0
    · exact ⟨_, fun _ => rfl, hg h⟩
    · exact ⟨Lx, fun h2 => absurd h2 h, Hx⟩
  replace H := SH.call (L1 := [_, _] ++ Lo) (Lv := [_]) H HL
  clear hg Hx HL
  refine OPS.val rfl rfl rfl (Ev.asI rfl) ?_
  refine OPS.nil ?_
  refine WP.seq ?_
  refine WP.region ?_
  refine OPS.val rfl rfl rfl (Ev.mvI rfl) ?_
  refine OPS.val rfl rfl rfl (Ev.neq rfl rfl) ?_
  refine OPS.nil ?_
  refine WP.cond rfl (fun hc20 => ?_) (fun hc20 => ?_)
  · refine WP.seq ?_
    refine WP.region ?_
    refine OPS.val rfl rfl rfl (Ev.mvI rfl) ?_
    refine OPS.val rfl rfl rfl (Ev.asP rfl) ?_
    refine OPS.val rfl rfl rfl (Ev.asS rfl) ?_
    refine OPS.val rfl rfl rfl (Ev.asI rfl) ?_
    refine OPS.nil ?_
    refine WP.ret ⟨_, rfl, ?_⟩
    have hv : homeE (roadT m l s.at_ t.depot.toNat) hd t s ≠ 0 := by simpa using hc20
    exact ⟨fun _ => ⟨rfl, H.reidx [] (by decide) rfl⟩, fun h2 => absurd h2 hv⟩
  refine WP.skip ?_
  refine WP.seq ?_
  refine WP.region ?_
  refine OPS.val rfl rfl rfl (Ev.mvP rfl) ?_
  refine OPS.val rfl rfl rfl (Ev.mvS rfl) ?_
  refine OPS.val rfl rfl rfl (Ev.asP rfl) ?_
  refine OPS.val rfl rfl rfl (Ev.asS rfl) ?_
  refine OPS.val rfl rfl rfl (Ev.asI rfl) ?_
  refine OPS.nil ?_
  refine WP.ret ⟨_, rfl, ?_⟩
  have hv : homeE (roadT m l s.at_ t.depot.toNat) hd t s = 0 := by simpa using hc20
  rw [hL' hv] at H
  have H2 := (H.perm rot3.symm)
  exact ⟨fun h2 => absurd hv h2, fun _ => ⟨g45, m, V, cv, Lo, rfl, rfl, hO, H2.drop (List.Sublist.cons_cons _ (((List.Sublist.refl _).cons _).cons _))⟩⟩
end Go.Proofs.Ytfddebpeiilohaa
