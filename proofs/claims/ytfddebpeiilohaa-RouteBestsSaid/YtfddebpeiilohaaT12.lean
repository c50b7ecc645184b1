/-
  Walk: walk.
-/
import Derived.Test.YtfddebpeiilohaaT6
import Derived.Test.YtfddebpeiilohaaArg
import Derived.Test.YtfddebpeiilohaaFacts
set_option linter.all false
namespace Go.Proofs.Ytfddebpeiilohaa
open Go Go.W Go.RowKit

theorem visitE_ok {d cap : Int} {x : Need} {s : TS} (h : visitE d cap x s = 0) : 0 ≤ d ∧ 0 ≤ s.load + x.move ∧ s.load + x.move ≤ cap := by
  unfold visitE at h
  split at h
  · cases h
  · split at h
    · rename_i h1 h2
      simp [inB] at h2
      omega
    · cases h
theorem TSOk.step {m j : Nat} {l : List Edg} {cap hd : Int} {x : Need} {s : TS} (h : TSOk m cap j s) (hok : RoadOk m l) (hx : (0 ≤ x.node ∧ x.node < m) ∧ x.move ≠ 0 ∧ -32 ≤ x.move ∧ x.move ≤ 32) (hh : 0 ≤ hd ∧ hd ≤ 3600) (hv : visitE (roadT m l s.at_ x.node.toNat) cap x s = 0) : TSOk m cap (j + 1) (visitT (roadT m l s.at_ x.node.toNat) hd x s) := by
  obtain ⟨h1, h2, h3⟩ := visitE_ok hv
  have hbd := roadT_bd hok h.at_ (v := x.node.toNat) (by omega)
  generalize roadT m l s.at_ x.node.toNat = d at *
  have hxa : 0 ≤ absI x.move ∧ absI x.move ≤ 32 := by unfold absI; split <;> omega
  have hmul : 0 ≤ absI x.move * hd ∧ absI x.move * hd ≤ 115200 := by
    refine ⟨Int.mul_nonneg hxa.1 hh.1, ?_⟩
    calc absI x.move * hd ≤ 32 * hd := Int.mul_le_mul_of_nonneg_right hxa.2 hh.1
      _ ≤ 115200 := by omega
  have := h.now
  have := h.driven
  refine ⟨?_, ?_, ?_, ?_⟩
  · show x.node.toNat < m; omega
  · show 0 ≤ s.now + d + absI x.move * hd ∧ s.now + d + absI x.move * hd ≤ 86400 + 200000 * ((j + 1 : Nat) : Int)
    omega
  · show 0 ≤ s.driven + d ∧ s.driven + d ≤ 64000 * ((j + 1 : Nat) : Int)
    omega
  · exact ⟨h2, h3⟩
theorem TSOk.start {m : Nat} {t : Truck} (h : (0 ≤ t.depot ∧ t.depot < m) ∧ (1 ≤ t.cap ∧ t.cap ≤ 32) ∧ 0 ≤ t.from_ ∧ t.from_ ≤ t.to_ ∧ t.to_ ≤ 86400) : TSOk m t.cap 0 (startT t) := by
  refine ⟨?_, ?_, ?_, ?_⟩
  · show t.depot.toNat < m; omega
  · show 0 ≤ t.from_ ∧ t.from_ ≤ 86400 + 200000 * ((0 : Nat) : Int); omega
  · show (0 : Int) ≤ 0 ∧ (0 : Int) ≤ 64000 * ((0 : Nat) : Int); omega
  · show (0 : Int) ≤ 0 ∧ 0 ≤ t.cap; omega

theorem rot3 {a b c : Blk} {Lo : List Blk} : ([a, b, c] ++ Lo).Perm (([b, c] ++ Lo) ++ [a]) := (List.perm_append_singleton a ([b, c] ++ Lo)).symm
theorem rot4 {v a b c : Blk} {Lo : List Blk} : (v :: (([b, c] ++ Lo) ++ [a])).Perm ([v, a, b, c] ++ Lo) := List.Perm.cons _ (List.perm_append_singleton a ([b, c] ++ Lo))
theorem truckWalkF (i : Int) (g k cc : Nat) (C : Option Addr) (w0 : World) (hk : k ≤ 1000) (hc : w0.cell? ⟨g, 3, none⟩ = some (.slice C k cc)) :
    Calls Try.prog 56 #[I i, .pointer (some ⟨g, 0, none⟩)] w0 fun e w' => e = .returned (.bool (outB k i)) ∧ Below w0.heap.size w0 w' := by
  have H := SH.refl w0
  refine Calls.ofWP Try.func56 rfl Try.results56 Try.ntmps56 rfl ?_
  refine WP.seq ?_
  refine WP.region ?_
  refine OPS.val rfl rfl rfl (Ev.asB rfl) ?_
  refine OPS.nil ?_
  refine WP.seq ?_
  refine WP.region ?_
  refine OPS.val rfl rfl rfl (Ev.mvI rfl) ?_
  refine OPS.val rfl rfl rfl (Ev.fieldAddr (fld_run rfl) rfl) ?_
  refine OPS.val rfl rfl rfl (Ev.load1 (agg_run rfl) rfl (by exact H.ld0 (by assumption))) ?_
  refine OPS.val rfl rfl rfl (Ev.len (el_run rfl) rfl) ?_
  refine OPS.val rfl rfl rfl (Ev.sub rfl rfl (by unfold fits; omega)) ?_
  refine OPS.call (d := some 9) rfl rfl rfl (EvC.func (fun_run rfl)) (truckIn _ _ _ _) ?_
  rintro _ w ⟨rfl, hb⟩
  refine ⟨_, rfl, ?_⟩
  replace H := H.toBelow hb; clear hb
  refine OPS.val rfl rfl rfl (Ev.not rfl) ?_
  refine OPS.val rfl rfl rfl (Ev.asB rfl) ?_
  refine OPS.nil ?_
  refine WP.ret ⟨_, rfl, ?_⟩
  exact ⟨rfl, H.below⟩

set_option maxHeartbeats 1000000 in
theorem truckWalk (n hd rt : Int) (A B C R : Option Addr) (l : List Edg) (ts : List Truck) (ns : List Need) (rn : List Int) (ca cb cc cr : Nat) (w0 : World) (hz : EdgsAt w0 A l) (ht : RowsAt 4 truckCells w0 B ts) (hn : RowsAt 2 needCells w0 C ns) (hcc : ns.length ≤ cc) (hr : IntsAt w0 R rn) (hrl : rn.length ≤ maxLen) (hrc : rn.length ≤ cr) :
    Calls Try.prog 32 #[.agg #[I n, .slice A l.length ca, .slice B ts.length cb, .slice C ns.length cc, I hd], .agg #[I rt, .slice R rn.length cr]] w0 fun e w' =>
      (walkE n l ts ns hd rt rn ≠ 0 → e = .returned (.tuple #[.pointer none, .slice none 0 0, I (walkE n l ts ns hd rt rn)]) ∧ SH w0 [] w' []) ∧
      (walkE n l ts ns hd rt rn = 0 → ∃ (g m : Nat) (V : Option Addr) (cv : Nat) (Lv : List Blk), n = m ∧ e = .returned (.tuple #[.pointer (some ⟨g, 0, none⟩), .slice V rn.length cv, I 0]) ∧ OwnS V cv rn.length ((walkV n l ts ns hd rt rn).flatMap visCells) 99 4 Lv ∧
        SH w0 [] w' ([⟨g, 70, tourCells (ts.getD rt.toNat default) (nightL m A B C l.length ts.length ns.length ca cb cc hd) (walkT n l ts ns hd rt rn)⟩] ++ Lv)) := by
  have H := SH.refl w0
  refine Calls.ofWP Try.func32 rfl Try.results32 Try.ntmps32 rfl ?_
  refine WP.seq ?_
  refine WP.region ?_
  refine OPS.box rfl rfl rfl rfl (cA rfl) H ?_
  clear H; intro g2 w H
  refine OPS.box rfl rfl rfl rfl (cA rfl) H ?_
  clear H; intro g3 w H
  refine OPS.val rfl rfl rfl (Ev.asP rfl) ?_
  refine OPS.val rfl rfl rfl (Ev.asS rfl) ?_
  refine OPS.val rfl rfl rfl (Ev.asI rfl) ?_
  refine OPS.nil ?_
  refine WP.seq ?_
  refine WP.seq ?_
  refine WP.region ?_
  refine OPS.val rfl rfl rfl ((by exact Ev.loadO 1 H rfl (agg_run rfl) (size_run rfl) (by rfl) rfl)) ?_
  refine OPS.call (d := some 16) rfl rfl rfl (EvC.func (fun_run rfl)) (truckCheck n hd A B C l ts ns ca cb cc w (hz.sh H) (ht.sh H) (hn.sh H) hcc) ?_
  rintro _ w ⟨rfl, hb⟩
  refine ⟨_, rfl, ?_⟩
  replace H := H.toBelow hb; clear hb
  refine OPS.val rfl rfl rfl (Ev.asI rfl) ?_
  refine OPS.nil ?_
  refine WP.seq ?_
  refine WP.region ?_
  refine OPS.val rfl rfl rfl (Ev.mvI rfl) ?_
  refine OPS.val rfl rfl rfl (Ev.neq rfl rfl) ?_
  refine OPS.nil ?_
  refine WP.cond rfl (fun hc2 => ?_) (fun hc2 => ?_)
  · refine WP.seq ?_
    refine WP.region ?_
    refine OPS.val rfl rfl rfl (Ev.mvI rfl) ?_
    refine OPS.val rfl rfl rfl (Ev.asP rfl) ?_
    refine OPS.val rfl rfl rfl (Ev.asS rfl) ?_
    refine OPS.val rfl rfl rfl (Ev.asI rfl) ?_
    refine OPS.nil ?_
    refine WP.ret ⟨_, rfl, ?_⟩
    have h : nightErr n l ts ns hd ≠ 0 := by simpa using hc2
    have he : walkE n l ts ns hd rt rn = nightErr n l ts ns hd := by rw [walkE, if_pos h]
    rw [he]
    exact ⟨fun _ => ⟨rfl, H.reidx [] (by decide) rfl⟩, fun h2 => absurd h2 h⟩
  have h0 : nightErr n l ts ns hd = 0 := by simpa using hc2
  obtain ⟨m, rfl, hN⟩ := nightOk_of h0
  have htl := hN.tl
  have hnl := hN.nl
  have hh := hN.hh
  refine WP.skip ?_
  refine WP.seq ?_
  refine WP.seq ?_
  refine WP.region ?_
  refine OPS.val rfl rfl rfl (Ev.fieldAddr (fld_run rfl) rfl) ?_
  refine OPS.val rfl rfl rfl (Ev.load1 (agg_run rfl) rfl (by exact H.ldL 0 rfl _ rfl)) ?_
  refine OPS.val rfl rfl rfl (Ev.fieldAddr (fld_run rfl) rfl) ?_
  refine OPS.val rfl rfl rfl (Ev.load1 (agg_run rfl) rfl (by exact H.ldL 1 rfl _ rfl)) ?_
  refine OPS.val rfl rfl rfl (Ev.len (el_run rfl) rfl) ?_
  refine OPS.val rfl rfl rfl (Ev.sub rfl rfl (by unfold fits; omega)) ?_
  refine OPS.call (d := some 26) rfl rfl rfl (EvC.func (fun_run rfl)) (truckIn _ _ _ _) ?_
  rintro _ w ⟨rfl, hb⟩
  refine ⟨_, rfl, ?_⟩
  replace H := H.toBelow hb; clear hb
  refine OPS.val rfl rfl rfl (Ev.not rfl) ?_
  refine OPS.val rfl rfl rfl (Ev.mvB rfl) ?_
  refine OPS.gval rfl rfl rfl rfl rfl (fun hg => Ev.fieldAddr (fld_run rfl) (by rfl)) ?_
  refine OPS.gval rfl rfl rfl rfl rfl (fun hg => Ev.load1 (agg_run rfl) (by exact gvE hg rfl) (by exact H.ldL 0 rfl _ rfl)) ?_
  refine OPS.gval rfl rfl rfl rfl rfl (fun hg => Ev.makeFunc) ?_
  refine OPS.gcall0 (f := 36) (slContainsFuncI R rn cr _ [.pointer (some ⟨g2, 0, none⟩)] (outB ns.length) _ (hr.sh H) hrl rfl (fun i _ w2 hb => truckWalkF i g2 ns.length cc C w2 (by omega) (cell_below hb (H.ldL 1 rfl 3 rfl)))) (fun _ _ h => h) rfl rfl rfl rfl rfl (fun hg => EvC.conv (EvC.func (fun_run rfl)) (l2 (by exact gvE hg rfl) (by exact gvE hg rfl))) ?_
  intro w hbc; replace H := H.toBelow hbc
  refine OPS.val rfl rfl rfl ((by exact Ev.pickOr rfl rfl rfl)) ?_
  refine OPS.nil ?_
  refine WP.cond rfl (fun hc4 => ?_) (fun hc4 => ?_)
  · refine WP.seq ?_
    refine WP.region ?_
    refine OPS.val rfl rfl rfl (Ev.asP rfl) ?_
    refine OPS.val rfl rfl rfl (Ev.asS rfl) ?_
    refine OPS.val rfl rfl rfl (Ev.asI rfl) ?_
    refine OPS.nil ?_
    refine WP.ret ⟨_, rfl, ?_⟩
    have he : routeErr ts ns rt rn = 7 := by
      unfold routeErr
      rw [if_pos]
      simpa [outB] using hc4
    have hw : walkE m l ts ns hd rt rn = 7 := by rw [walkE, if_neg (by simp [h0]), if_pos (by rw [he]; decide), he]
    rw [hw]
    exact ⟨fun _ => ⟨rfl, H.reidx [] (by decide) rfl⟩, fun h2 => absurd h2 (by decide)⟩
  refine WP.skip ?_
  refine WP.seq ?_
  refine WP.seq ?_
  refine WP.region ?_
  refine OPS.val rfl rfl rfl (Ev.fieldAddr (fld_run rfl) rfl) ?_
  refine OPS.val rfl rfl rfl (Ev.load1 (agg_run rfl) rfl (by exact H.ldL 0 rfl _ rfl)) ?_
  refine OPS.call (d := some 36) rfl rfl rfl (EvC.func (fun_run rfl)) (truckTwice R rn cr _ (hr.sh H) hrl hrc) ?_
  rintro _ w ⟨rfl, hb⟩
  refine ⟨_, rfl, ?_⟩
  replace H := H.toBelow hb; clear hb
  refine OPS.nil ?_
  refine WP.cond rfl (fun hc6 => ?_) (fun hc6 => ?_)
  · refine WP.seq ?_
    refine WP.region ?_
    refine OPS.val rfl rfl rfl (Ev.asP rfl) ?_
    refine OPS.val rfl rfl rfl (Ev.asS rfl) ?_
    refine OPS.val rfl rfl rfl (Ev.asI rfl) ?_
    refine OPS.nil ?_
    refine WP.ret ⟨_, rfl, ?_⟩
    have he : routeErr ts ns rt rn = 6 := by
      unfold routeErr
      rw [if_neg (by simpa [outB] using hc4), if_pos hc6]
    have hw : walkE m l ts ns hd rt rn = 6 := by rw [walkE, if_neg (by simp [h0]), if_pos (by rw [he]; decide), he]
    rw [hw]
    exact ⟨fun _ => ⟨rfl, H.reidx [] (by decide) rfl⟩, fun h2 => absurd h2 (by decide)⟩
  have he0 : routeErr ts ns rt rn = 0 := by
    unfold routeErr
    rw [if_neg (by simpa [outB] using hc4), if_neg (by simpa using hc6)]
  obtain ⟨hrt, hrr, hrd, hrlen⟩ := routeOk_of he0
  obtain ⟨q, rfl⟩ := Int.eq_ofNat_of_zero_le hrt.1
  have hq : q < ts.length := by omega
  have hgt : ts.getD (q : Int).toNat default = ts[q] := by simp [hq]
  obtain ⟨bt, ot, rfl, htc⟩ := ht q hq
  have htr := hN.tr ts[q] (List.getElem_mem hq)
  rw [hgt]
  have hw : walkE m l ts ns hd q rn = if goE (roadD m l) ts[q].cap hd ns rn (startT ts[q]) ≠ 0 then goE (roadD m l) ts[q].cap hd ns rn (startT ts[q]) else homeE (roadD m l (goT (roadD m l) hd ns rn (startT ts[q])).at_ ts[q].depot.toNat) hd ts[q] (goT (roadD m l) hd ns rn (startT ts[q])) := by
    rw [walkE, if_neg (by simp [h0]), if_neg (by simp [he0])]
    unfold endT
    rw [hgt]
  have hwT : walkT m l ts ns hd q rn = homeT (roadD m l (goT (roadD m l) hd ns rn (startT ts[q])).at_ ts[q].depot.toNat) hd ts[q] (goT (roadD m l) hd ns rn (startT ts[q])) := by
    unfold walkT endT
    rw [hgt]
  have hwV : walkV m l ts ns hd q rn = goV (roadD m l) hd ns rn (startT ts[q]) := by
    unfold walkV
    rw [hgt]
  rw [hw, hwT, hwV]
  clear hw hwT hwV
  obtain ⟨dv, hdv⟩ := Int.eq_ofNat_of_zero_le htr.1.1
  generalize htt : ts[q] = t at *
  refine WP.skip ?_
  refine WP.seq ?_
  refine WP.rtail 8 mixed (by kernel_rfl) H ?_
  clear H; intro w hbw8 H
  refine OPS.val rfl rfl rfl (Ev.fieldAddr (fld_run rfl) rfl) ?_
  refine OPS.val rfl rfl rfl (Ev.load1 (agg_run rfl) rfl (by exact H.ldL 1 rfl _ rfl)) ?_
  refine OPS.val rfl rfl rfl (Ev.fieldAddr (fld_run rfl) rfl) ?_
  refine OPS.val rfl rfl rfl (Ev.load1 (agg_run rfl) rfl (by exact H.ldL 0 rfl _ rfl)) ?_
  refine OPS.val rfl rfl rfl ((by exact Ev.indexAddr (el_run rfl) (size_run rfl) rfl rfl rfl (by omega))) ?_
  have htc' := cellsAt_sh H htc
  refine OPS.val rfl rfl rfl ((by (change Ev _ _ _ _ (Op.load 54 (Operand.tmp 41)) _; exact Ev.loadN (truckCells t) (agg_run rfl) (size_run rfl) rfl htc'))) ?_
  refine OPS.val rfl rfl rfl ((by exact Ev.loadO 1 H rfl (agg_run rfl) (size_run rfl) (by rfl) rfl)) ?_
  refine OPS.val rfl rfl rfl (Ev.build (bld_70_0_1 rfl rfl)) ?_
  refine OPS.nil_s ?_
  refine OPS.box rfl rfl rfl rfl (cA rfl) H ?_
  clear H; intro g45 w H
  refine OPS.val rfl rfl rfl (Ev.asP rfl) ?_
  refine OPS.nil ?_
  refine WP.seq ?_
  have Hf := H
  replace H := H.drop (L' := [_, _]) (List.sublist_cons_self _ _)
  refine WP.rheldC [46, 47, 48, 49, 50, 51, 52, 53, 54, 55, 56, 57, 58, 59, 60, 61, 62] (fun _ w' => SH w0 [] w' [⟨g45, 70, tourCells t (nightL m A (some ⟨bt, ot, none⟩) C l.length ts.length ns.length ca cb cc hd) (startT t)⟩, ⟨g3, 34, [I q, .slice R rn.length cr]⟩, ⟨g2, 28, [I m, .slice A l.length ca, .slice (some ⟨bt, ot, none⟩) ts.length cb, .slice C ns.length cc, I hd]⟩]) mixed H ?_ ?_
  · clear H; intro w hbw9 H
    refine OPH.take 0 rfl rfl rfl rfl (by kernel_rfl) (by kernel_rfl) (by kernel_rfl) rfl (by exact H) (fun w H => Ev.mvP rfl) ?_
    refine OPH.take 1 rfl rfl rfl rfl (by kernel_rfl) (by kernel_rfl) (by kernel_rfl) rfl (by exact H) (fun w H => Ev.mvP rfl) ?_
    refine OPH.take 2 rfl rfl rfl rfl (by kernel_rfl) (by kernel_rfl) (by kernel_rfl) rfl (by exact H) (fun w H => Ev.mvP rfl) ?_
    refine OPH.take 3 rfl rfl rfl rfl (by kernel_rfl) (by kernel_rfl) (by kernel_rfl) rfl (by exact H) (fun w H => (by exact Ev.nilCheckP rfl)) ?_
    refine OPH.take 4 rfl rfl rfl rfl (by kernel_rfl) (by kernel_rfl) (by kernel_rfl) rfl (by exact H) (fun w H => Ev.fieldAddr (fld_run rfl) rfl) ?_
    refine OPH.take 5 rfl rfl rfl rfl (by kernel_rfl) (by kernel_rfl) (by kernel_rfl) rfl (by exact H) (fun w H => Ev.fieldAddr (fld_run rfl) rfl) ?_
    refine OPH.take 7 rfl rfl rfl rfl (by kernel_rfl) (by kernel_rfl) (by kernel_rfl) rfl (by exact H) (fun w H => Ev.mvP rfl) ?_
    refine OPH.take 8 rfl rfl rfl rfl (by kernel_rfl) (by kernel_rfl) (by kernel_rfl) rfl (by exact H) (fun w H => (by exact Ev.nilCheckP rfl)) ?_
    refine OPH.take 9 rfl rfl rfl rfl (by kernel_rfl) (by kernel_rfl) (by kernel_rfl) rfl (by exact H) (fun w H => Ev.fieldAddr (fld_run rfl) rfl) ?_
    refine OPH.take 10 rfl rfl rfl rfl (by kernel_rfl) (by kernel_rfl) (by kernel_rfl) rfl (by exact H) (fun w H => Ev.fieldAddr (fld_run rfl) rfl) ?_
    refine OPH.take 11 rfl rfl rfl rfl (by kernel_rfl) (by kernel_rfl) (by kernel_rfl) rfl (by exact H) (fun w H => Ev.fieldAddr (fld_run rfl) rfl) ?_
    refine OPH.all [6, 12] (by kernel_rfl) (by simp) rfl ?_
    intro i hi; simp only [List.mem_cons, List.not_mem_nil, or_false] at hi
    rcases hi with rfl | rfl
    · refine ⟨_, rfl, ?_⟩
      try replace Hf := Hf.toBelow hbw9
      refine OPS.val rfl rfl rfl (Ev.load1 (agg_run rfl) rfl (Hf.ldL 0 rfl _ rfl)) ?_
      refine OPS.nil ?_
      refine ⟨(by exact H), ?_⟩
      refine OPH.all [12] (by kernel_rfl) (by simp) rfl ?_
      intro i hi; simp only [List.mem_cons, List.not_mem_nil, or_false] at hi
      rcases hi with rfl
      · refine ⟨_, rfl, ?_⟩
        try replace Hf := Hf.toBelow hbw9
        refine OPS.val rfl rfl rfl (Ev.load1 (agg_run rfl) rfl (Hf.ldL 0 rfl _ rfl)) ?_
        refine OPS.nil ?_
        refine ⟨(by exact H), ?_⟩
        refine OPH.take 13 rfl rfl rfl rfl (by kernel_rfl) (by kernel_rfl) (by kernel_rfl) rfl (by exact H) (fun w H => (by exact Ev.nilCheckP rfl)) ?_
        refine OPH.take 14 rfl rfl rfl rfl (by kernel_rfl) (by kernel_rfl) (by kernel_rfl) rfl (by exact H) (fun w H => Ev.fieldAddr (fld_run rfl) rfl) ?_
        refine OPH.all [15] (by kernel_rfl) (by simp) rfl ?_
        intro i hi; simp only [List.mem_cons, List.not_mem_nil, or_false] at hi
        rcases hi with rfl
        · refine ⟨_, rfl, ?_⟩
          try replace Hf := Hf.toBelow hbw9
          refine OPS.store 0 _ rfl rfl rfl (size_run rfl) rfl (cI rfl) rfl rfl Hf rfl (by simp) ?_
          clear H Hf; intro w Hf
          simp only [List.set_cons_zero, List.set_cons_succ, putL, Nat.zero_add] at Hf
          have H := Hf.drop (L' := [_, _]) (List.sublist_cons_self _ _)
          refine OPS.nil ?_
          refine ⟨(by exact H), ?_⟩
          refine OPH.take 16 rfl rfl rfl rfl (by kernel_rfl) (by kernel_rfl) (by kernel_rfl) rfl (by exact H) (fun w H => (by exact Ev.nilCheckP rfl)) ?_
          refine OPH.take 17 rfl rfl rfl rfl (by kernel_rfl) (by kernel_rfl) (by kernel_rfl) rfl (by exact H) (fun w H => Ev.fieldAddr (fld_run rfl) rfl) ?_
          refine OPH.all [18] (by kernel_rfl) (by simp) rfl ?_
          intro i hi; simp only [List.mem_cons, List.not_mem_nil, or_false] at hi
          rcases hi with rfl
          · refine ⟨_, rfl, ?_⟩
            try replace Hf := Hf.toBelow hbw9
            refine OPS.store 0 _ rfl rfl rfl (size_run rfl) rfl (cI rfl) rfl rfl Hf rfl (by simp) ?_
            clear H Hf; intro w Hf
            simp only [List.set_cons_zero, List.set_cons_succ, putL, Nat.zero_add] at Hf
            have H := Hf.drop (L' := [_, _]) (List.sublist_cons_self _ _)
            refine OPS.nil ?_
            refine ⟨(by exact H), ?_⟩
            refine OPH.done (by kernel_rfl) ?_
            exact ⟨(by repeat (first | exact Agree.refl _ _ | exact Agree.mix _ _ _ | refine Agree.upd rfl ?_ | refine Agree.mix2 rfl ?_)), (by rw [hdv] at Hf; unfold startT tourCells truckCells; rw [hdv, Int.toNat_natCast]; exact Hf)⟩
    · refine ⟨_, rfl, ?_⟩
      try replace Hf := Hf.toBelow hbw9
      refine OPS.val rfl rfl rfl (Ev.load1 (agg_run rfl) rfl (Hf.ldL 0 rfl _ rfl)) ?_
      refine OPS.nil ?_
      refine ⟨(by exact H), ?_⟩
      refine OPH.all [6] (by kernel_rfl) (by simp) rfl ?_
      intro i hi; simp only [List.mem_cons, List.not_mem_nil, or_false] at hi
      rcases hi with rfl
      · refine ⟨_, rfl, ?_⟩
        try replace Hf := Hf.toBelow hbw9
        refine OPS.val rfl rfl rfl (Ev.load1 (agg_run rfl) rfl (Hf.ldL 0 rfl _ rfl)) ?_
        refine OPS.nil ?_
        refine ⟨(by exact H), ?_⟩
        refine OPH.take 13 rfl rfl rfl rfl (by kernel_rfl) (by kernel_rfl) (by kernel_rfl) rfl (by exact H) (fun w H => (by exact Ev.nilCheckP rfl)) ?_
        refine OPH.take 14 rfl rfl rfl rfl (by kernel_rfl) (by kernel_rfl) (by kernel_rfl) rfl (by exact H) (fun w H => Ev.fieldAddr (fld_run rfl) rfl) ?_
        refine OPH.all [15] (by kernel_rfl) (by simp) rfl ?_
        intro i hi; simp only [List.mem_cons, List.not_mem_nil, or_false] at hi
        rcases hi with rfl
        · refine ⟨_, rfl, ?_⟩
          try replace Hf := Hf.toBelow hbw9
          refine OPS.store 0 _ rfl rfl rfl (size_run rfl) rfl (cI rfl) rfl rfl Hf rfl (by simp) ?_
          clear H Hf; intro w Hf
          simp only [List.set_cons_zero, List.set_cons_succ, putL, Nat.zero_add] at Hf
          have H := Hf.drop (L' := [_, _]) (List.sublist_cons_self _ _)
          refine OPS.nil ?_
          refine ⟨(by exact H), ?_⟩
          refine OPH.take 16 rfl rfl rfl rfl (by kernel_rfl) (by kernel_rfl) (by kernel_rfl) rfl (by exact H) (fun w H => (by exact Ev.nilCheckP rfl)) ?_
          refine OPH.take 17 rfl rfl rfl rfl (by kernel_rfl) (by kernel_rfl) (by kernel_rfl) rfl (by exact H) (fun w H => Ev.fieldAddr (fld_run rfl) rfl) ?_
          refine OPH.all [18] (by kernel_rfl) (by simp) rfl ?_
          intro i hi; simp only [List.mem_cons, List.not_mem_nil, or_false] at hi
          rcases hi with rfl
          · refine ⟨_, rfl, ?_⟩
            try replace Hf := Hf.toBelow hbw9
            refine OPS.store 0 _ rfl rfl rfl (size_run rfl) rfl (cI rfl) rfl rfl Hf rfl (by simp) ?_
            clear H Hf; intro w Hf
            simp only [List.set_cons_zero, List.set_cons_succ, putL, Nat.zero_add] at Hf
            have H := Hf.drop (L' := [_, _]) (List.sublist_cons_self _ _)
            refine OPS.nil ?_
            refine ⟨(by exact H), ?_⟩
            refine OPH.done (by kernel_rfl) ?_
            exact ⟨(by repeat (first | exact Agree.refl _ _ | exact Agree.mix _ _ _ | refine Agree.upd rfl ?_ | refine Agree.mix2 rfl ?_)), (by rw [hdv] at Hf; unfold startT tourCells truckCells; rw [hdv, Int.toNat_natCast]; exact Hf)⟩
  clear H
  rintro u w H
  refine WP.seq ?_
  refine WP.region ?_
  refine OPS.val rfl rfl rfl (Ev.asS rfl) ?_
  refine OPS.nil ?_
  refine WP.seq ?_
  refine WP.seq ?_
  refine WP.region ?_
  refine OPS.val rfl rfl rfl (Ev.fieldAddr (fld_run rfl) rfl) ?_
  refine OPS.val rfl rfl rfl (Ev.load1 (agg_run rfl) rfl (by exact H.ldL 1 rfl _ rfl)) ?_
  refine OPS.val rfl rfl rfl (Ev.len (el_run rfl) rfl) ?_
  refine OPS.val rfl rfl rfl (Ev.mvI rfl) ?_
  refine OPS.nil ?_
  refine WP.block ?_
  refine WP.loop [4, 5, 6, 9, 11, 12, 13, 66, 67, 68, 69, 70, 71, 72, 73, 74, 75, 76, 77, 78, 79, 80, 81, 82, 83] (fun k e w' => ∃ (j : Nat) (s : TS) (V : Option Addr) (cv : Nat) (Lo : List Blk), j + k = rn.length ∧ e 66 = I j ∧ e 9 = .slice V j cv ∧ OwnS V cv j ((goV (roadD m l) hd ns (rn.take j) (startT t)).flatMap visCells) 99 4 Lo ∧ goT (roadD m l) hd ns (rn.take j) (startT t) = s ∧ goE (roadD m l) t.cap hd ns (rn.take j) (startT t) = 0 ∧ TSOk m t.cap j s ∧ SH w0 [] w' ([⟨g45, 70, tourCells t (nightL m A (some ⟨bt, ot, none⟩) C l.length ts.length ns.length ca cb cc hd) (s)⟩, ⟨g3, 34, [I q, .slice R rn.length cr]⟩, ⟨g2, 28, [I m, .slice A l.length ca, .slice (some ⟨bt, ot, none⟩) ts.length cb, .slice C ns.length cc, I hd]⟩] ++ Lo)) (rn.length) (⟨0, startT t, none, 0, [], by omega, rfl, rfl, OwnS.nil, rfl, rfl, TSOk.start htr, by simpa using H⟩) ?_
  clear H
  rintro k u w ⟨j, s, V, cv, Lo, hk, h66, h9, hO, hgT, hgE, hS, H⟩
  refine WP.know (t := 66) h66 (WP.know (t := 9) h9 ?_)
  have hg45 : w0.heap.size ≤ g45 := by
    rcases H.may ⟨g45, 70, tourCells t (nightL m A (some ⟨bt, ot, none⟩) C l.length ts.length ns.length ca cb cc hd) (s)⟩ (by simp) with h | h
    · exact h
    · cases h
  have hA : l ≠ [] → Off A [g45] := hz.off (fun x => by simp [edgCells]) (fun g hg => by simp at hg; subst hg; exact hg45)
  have hC : ns ≠ [] → Off C [g45] := hn.off (fun x => by simp [needCells]) (fun g hg => by simp at hg; subst hg; exact hg45)
  have hjn : j ≤ 16 := by omega
  have hSn := hS.now
  have hSd := hS.driven
  have hSl := hS.load
  have htc2 := htr.2.1
  refine WP.seq ?_
  refine WP.region ?_
  refine OPS.val rfl rfl rfl (Ev.lss rfl rfl) ?_
  refine OPS.nil ?_
  refine WP.seq ?_
  refine WP.cond rfl (fun hc12 => ?_) (fun hc12 => ?_)
  · have hlt : j < rn.length := by simp at hc12; omega
    obtain ⟨hi0, hi1⟩ := hrr rn[j] (List.getElem_mem hlt)
    obtain ⟨ni, hni⟩ := Int.eq_ofNat_of_zero_le hi0
    have hnl2 : ni < ns.length := by omega
    have hnx := hN.nd ns[ni] (List.getElem_mem hnl2)
    obtain ⟨br, orr, rfl, hx⟩ := hr j hlt
    rw [hni] at hx
    have hna : needAt ns rn[j] = ns[ni] := by rw [hni]; simp [needAt, hnl2]
    have hgD : goD (roadD m l) ns rn[j] s = roadT m l s.at_ ns[ni].node.toNat := by unfold goD roadD; rw [hna]; simp
    have htk : rn.take (j + 1) = rn.take j ++ [rn[j]] := List.take_succ_eq_append_getElem hlt
    have hE1 : goE (roadD m l) t.cap hd ns (rn.take (j + 1)) (startT t) = visitE (roadT m l s.at_ ns[ni].node.toNat) t.cap ns[ni] s := by
      rw [htk, goE_app, hgE, hgT]
      simp only [goE, hgD, hna]
      by_cases h : visitE (roadT m l s.at_ ns[ni].node.toNat) t.cap ns[ni] s = 0 <;> simp [h]
    refine WP.skip ?_
    refine WP.seq ?_
    refine WP.block ?_
    refine WP.seq ?_
    refine WP.region ?_
    refine OPS.val rfl rfl rfl ((by exact Ev.indexAddr1 (el_run rfl) (size_run rfl) rfl rfl rfl (by omega))) ?_
    refine OPS.val rfl rfl rfl (Ev.load1 (agg_run rfl) rfl (by exact H.ld0 (by assumption))) ?_
    refine OPS.val rfl rfl rfl (Ev.asI rfl) ?_
    refine OPS.nil ?_
    refine WP.seq ?_
    replace H := H.perm rot3
    refine WP.region ?_
    refine OPS.val rfl rfl rfl (Ev.mvP rfl) ?_
    refine OPS.val rfl rfl rfl (Ev.mvI rfl) ?_
    refine OPS.call (d := some 73) rfl rfl rfl (EvC.func (fun_run rfl)) (tourVisit g45 m ni A (some ⟨bt, ot, none⟩) C l ns ts.length ca cb cc hd t s w [g45] hN.road hS.at_ (by omega) hnl2 (by omega) hh (hz.sh H) hA (hn.sh H) hC (H.restart (Lv := [_]) (List.sublist_append_right _ _)) rfl) ?_
    rintro _ w ⟨rfl, hg, Lx, Hx⟩
    refine ⟨_, rfl, ?_⟩
    obtain ⟨L', hL', HL⟩ : ∃ L' : List Blk, (visitE (roadT m l s.at_ ns[ni].node.toNat) t.cap ns[ni] s = 0 → L' = [⟨g45, 70, tourCells t (nightL m A (some ⟨bt, ot, none⟩) C l.length ts.length ns.length ca cb cc hd) (visitT (roadT m l s.at_ ns[ni].node.toNat) hd ns[ni] s)⟩]) ∧ SH _ [g45] w L' := by
      by_cases h : visitE (roadT m l s.at_ ns[ni].node.toNat) t.cap ns[ni] s = 0
      · exact ⟨_, fun _ => rfl, hg h⟩
      · exact ⟨Lx, fun h2 => absurd h2 h, Hx⟩
    replace H := SH.call (L1 := [_, _] ++ Lo) (Lv := [_]) H HL
    clear hg Hx HL
    refine OPS.val rfl rfl rfl (Ev.mvT rfl) ?_
    refine OPS.val rfl rfl rfl (Ev.extract rfl rfl) ?_
    refine OPS.val rfl rfl rfl (Ev.extract rfl rfl) ?_
    refine OPS.alloc rfl rfl rfl rfl (zero_run rfl) rfl H ?_
    clear H; intro g12 w H
    refine OPS.store 0 _ rfl rfl rfl (size_run rfl) rfl (cA rfl) rfl rfl H rfl (by simp) ?_
    clear H; intro w H; try simp only [List.set_cons_zero, List.set_cons_succ, putL, Nat.zero_add] at H
    refine OPS.val rfl rfl rfl (Ev.asI rfl) ?_
    refine OPS.nil ?_
    refine WP.seq ?_
    refine WP.seq ?_
    refine WP.region ?_
    refine OPS.val rfl rfl rfl (Ev.mvI rfl) ?_
    refine OPS.val rfl rfl rfl (Ev.neq rfl rfl) ?_
    refine OPS.nil ?_
    refine WP.cond rfl (fun hc15 => ?_) (fun hc15 => ?_)
    · have hv : visitE (roadT m l s.at_ ns[ni].node.toNat) t.cap ns[ni] s ≠ 0 := by simpa using hc15
      have hEn : goE (roadD m l) t.cap hd ns rn (startT t) = visitE (roadT m l s.at_ ns[ni].node.toNat) t.cap ns[ni] s := by
        have h := goE_app (roadD m l) t.cap hd ns (rn.take (j + 1)) (rn.drop (j + 1)) (startT t)
        rw [List.take_append_drop, hE1, if_pos hv] at h; exact h
      refine WP.seq ?_
      refine WP.region ?_
      refine OPS.val rfl rfl rfl (Ev.mvI rfl) ?_
      refine OPS.val rfl rfl rfl (Ev.asP rfl) ?_
      refine OPS.val rfl rfl rfl (Ev.asS rfl) ?_
      refine OPS.val rfl rfl rfl (Ev.asI rfl) ?_
      refine OPS.nil ?_
      refine WP.ret ⟨_, rfl, ?_⟩
      rw [hEn, if_pos hv]
      exact ⟨fun _ => ⟨rfl, H.reidx [] (by decide) rfl⟩, fun h2 => absurd h2 hv⟩
    have hv : visitE (roadT m l s.at_ ns[ni].node.toNat) t.cap ns[ni] s = 0 := by simpa using hc15
    rw [hL' hv, if_pos hv] at H
    replace H := H.perm rot4
    have hS1 := hS.step hN.road hnx hh hv
    refine WP.skip ?_
    refine WP.region ?_
    refine OPS.val rfl rfl rfl (Ev.mvS rfl) ?_
    refine OPS.val rfl rfl rfl ((by exact Ev.loadO 0 H rfl (agg_run rfl) (size_run rfl) (by rfl) rfl)) ?_
    refine OPS.buildSlice rfl rfl rfl rfl (bsl_66_1_0 rfl) H ?_
    clear H; intro g81 w H
    refine OPS.append (m := 1) (news := visCells (visitV (roadT m l s.at_ ns[ni].node.toNat) hd ni ns[ni] s)) (R := [⟨g81, 99, visCells (visitV (roadT m l s.at_ ns[ni].node.toNat) hd ni ns[ni] s)⟩, ⟨g12, 99, visCells (visitV (roadT m l s.at_ ns[ni].node.toNat) hd ni ns[ni] s)⟩, ⟨g45, 70, tourCells t (nightL m A (some ⟨bt, ot, none⟩) C l.length ts.length ns.length ca cb cc hd) (visitT (roadT m l s.at_ ns[ni].node.toNat) hd ns[ni] s)⟩, ⟨g3, 34, [I q, .slice (some ⟨br, orr, none⟩) rn.length cr]⟩, ⟨g2, 28, [I m, .slice A l.length ca, .slice (some ⟨bt, ot, none⟩) ts.length cb, .slice C ns.length cc, I hd]⟩]) rfl rfl rfl rfl rfl (sl_run rfl) rfl rfl hO rfl (src_own H 0 rfl) rfl (by omega) (by unfold maxLen; omega) H (List.Perm.refl _) ?_
    clear H hO; intro V cv Lo w hO H
    refine OPS.val rfl rfl rfl (Ev.asS rfl) ?_
    refine OPS.nil ?_
    refine WP.region ?_
    refine OPS.val rfl rfl rfl (Ev.add rfl rfl (by unfold fits; omega)) ?_
    refine OPS.val rfl rfl rfl (Ev.mvI rfl) ?_
    refine OPS.nil ?_
    have hT1 : goT (roadD m l) hd ns (rn.take (j + 1)) (startT t) = visitT (roadT m l s.at_ ns[ni].node.toNat) hd ns[ni] s := by rw [htk, goT_app, hgT]; simp only [goT, hgD, hna]
    have hV1 : goV (roadD m l) hd ns (rn.take (j + 1)) (startT t) = goV (roadD m l) hd ns (rn.take j) (startT t) ++ [visitV (roadT m l s.at_ ns[ni].node.toNat) hd ni ns[ni] s] := by rw [htk, goV_app, hgT]; (simp only [goV, hgD, hna]; rw [hni])
    exact ⟨(by repeat (first | exact Agree.refl _ _ | exact Agree.mix _ _ _ | refine Agree.upd rfl ?_ | refine Agree.mix2 rfl ?_)), k - 1, by omega, j + 1, visitT (roadT m l s.at_ ns[ni].node.toNat) hd ns[ni] s, V, cv, Lo, by omega, rfl, rfl, (by rw [hV1, List.flatMap_append]; simpa using hO), hT1, (by rw [hE1]; exact hv), hS1, H.drop (((List.Sublist.refl _).cons _).cons _)⟩
  have hj : j = rn.length := by simp at hc12; omega
  subst hj
  rw [List.take_length] at hgT hgE hO
  rw [hgE, if_neg (by simp), hgT, show roadD m l s.at_ t.depot.toNat = roadT m l s.at_ t.depot.toNat from by unfold roadD; simp]
  replace H := H.perm rot3
  refine WP.exit ?_
  refine XB.hit ?_
  refine WP.seq ?_
  refine WP.seq ?_
  refine WP.region ?_
  refine OPS.val rfl rfl rfl (Ev.mvP rfl) ?_
  refine OPS.call (d := some 85) rfl rfl rfl (EvC.func (fun_run rfl)) (tourHome g45 m A (some ⟨bt, ot, none⟩) C l ts.length ns.length ca cb cc hd t s w hN.road hS.at_ (by omega) htr.1 hh (hz.sh H) hA (H.restart (Lv := [_]) (List.sublist_append_right _ _))) ?_
  rintro _ w ⟨rfl, hg, Lx, Hx⟩
  refine ⟨_, rfl, ?_⟩
  obtain ⟨L', hL', HL⟩ : ∃ L' : List Blk, (homeE (roadT m l s.at_ t.depot.toNat) hd t s = 0 → L' = [⟨g45, 70, tourCells t (nightL m A (some ⟨bt, ot, none⟩) C l.length ts.length ns.length ca cb cc hd) (homeT (roadT m l s.at_ t.depot.toNat) hd t s)⟩]) ∧ SH _ [g45] w L' := by
    by_cases h : homeE (roadT m l s.at_ t.depot.toNat) hd t s = 0
    · exact ⟨_, fun _ => rfl, hg h⟩
    · exact ⟨Lx, fun h2 => absurd h2 h, Hx⟩
  replace H := SH.call (L1 := [_, _] ++ Lo) (Lv := [_]) H HL
  clear hg Hx HL
  refine OPS.val rfl rfl rfl (Ev.asI rfl) ?_
  refine OPS.nil ?_
  refine WP.seq ?_
  refine WP.region ?_
  refine OPS.val rfl rfl rfl (Ev.mvI rfl) ?_
  refine OPS.val rfl rfl rfl (Ev.neq rfl rfl) ?_
  refine OPS.nil ?_
  refine WP.cond rfl (fun hc20 => ?_) (fun hc20 => ?_)
  · refine WP.seq ?_
    refine WP.region ?_
    refine OPS.val rfl rfl rfl (Ev.mvI rfl) ?_
    refine OPS.val rfl rfl rfl (Ev.asP rfl) ?_
    refine OPS.val rfl rfl rfl (Ev.asS rfl) ?_
    refine OPS.val rfl rfl rfl (Ev.asI rfl) ?_
    refine OPS.nil ?_
    refine WP.ret ⟨_, rfl, ?_⟩
    have hv : homeE (roadT m l s.at_ t.depot.toNat) hd t s ≠ 0 := by simpa using hc20
    exact ⟨fun _ => ⟨rfl, H.reidx [] (by decide) rfl⟩, fun h2 => absurd h2 hv⟩
  refine WP.skip ?_
  refine WP.seq ?_
  refine WP.region ?_
  refine OPS.val rfl rfl rfl (Ev.mvP rfl) ?_
  refine OPS.val rfl rfl rfl (Ev.mvS rfl) ?_
  refine OPS.val rfl rfl rfl (Ev.asP rfl) ?_
  refine OPS.val rfl rfl rfl (Ev.asS rfl) ?_
  refine OPS.val rfl rfl rfl (Ev.asI rfl) ?_
  refine OPS.nil ?_
  refine WP.ret ⟨_, rfl, ?_⟩
  have hv : homeE (roadT m l s.at_ t.depot.toNat) hd t s = 0 := by simpa using hc20
  rw [hL' hv] at H
  have H2 := (H.perm rot3.symm)
  exact ⟨fun h2 => absurd hv h2, fun _ => ⟨g45, m, V, cv, Lo, rfl, rfl, hO, H2.drop (List.Sublist.cons_cons _ (((List.Sublist.refl _).cons _).cons _))⟩⟩
end Go.Proofs.Ytfddebpeiilohaa

/-
  Walks: Walk, Driving.
-/
set_option linter.all false
namespace Go.Proofs.Ytfddebpeiilohaa
open Go Go.W Go.RowKit

/-- the visits that Walk returns -/
noncomputable def outV (n : Int) (l : List Edg) (ts : List Truck) (ns : List Need) (hd rt : Int) (rn : List Int) : List Vis := if walkE n l ts ns hd rt rn = 0 then walkV n l ts ns hd rt rn else []
noncomputable def outB' (n : Int) (l : List Edg) (ts : List Truck) (ns : List Need) (hd rt : Int) (rn : List Int) : Int := if walkE n l ts ns hd rt rn = 0 then (walkT n l ts ns hd rt rn).now else 0
noncomputable def outD (n : Int) (l : List Edg) (ts : List Truck) (ns : List Need) (hd rt : Int) (rn : List Int) : Int := if walkE n l ts ns hd rt rn = 0 then (walkT n l ts ns hd rt rn).driven else 0
theorem walkV_len (n : Int) (l : List Edg) (ts : List Truck) (ns : List Need) (hd rt : Int) (rn : List Int) : (walkV n l ts ns hd rt rn).length = rn.length := by unfold walkV; rw [goV_len]

theorem truckWalk1 (n hd rt : Int) (A B C R : Option Addr) (l : List Edg) (ts : List Truck) (ns : List Need) (rn : List Int) (ca cb cc cr : Nat) (w0 : World) (hz : EdgsAt w0 A l) (ht : RowsAt 4 truckCells w0 B ts) (hn : RowsAt 2 needCells w0 C ns) (hcc : ns.length ≤ cc) (hr : IntsAt w0 R rn) (hrl : rn.length ≤ maxLen) (hrc : rn.length ≤ cr) (hE : walkE n l ts ns hd rt rn = 0) :
    Calls Try.prog 32 #[.agg #[I n, .slice A l.length ca, .slice B ts.length cb, .slice C ns.length cc, I hd], .agg #[I rt, .slice R rn.length cr]] w0 fun e w' => ∃ (g m : Nat) (V : Option Addr) (cv : Nat) (Lv : List Blk), n = m ∧ e = .returned (.tuple #[.pointer (some ⟨g, 0, none⟩), .slice V rn.length cv, I 0]) ∧ OwnS V cv rn.length ((walkV n l ts ns hd rt rn).flatMap visCells) 99 4 Lv ∧
        SH w0 [] w' ([⟨g, 70, tourCells (ts.getD rt.toNat default) (nightL m A B C l.length ts.length ns.length ca cb cc hd) (walkT n l ts ns hd rt rn)⟩] ++ Lv) :=
  Calls.mono (truckWalk n hd rt A B C R l ts ns rn ca cb cc cr w0 hz ht hn hcc hr hrl hrc) fun _ _ h => h.2 hE
theorem truckWalk0 (n hd rt : Int) (A B C R : Option Addr) (l : List Edg) (ts : List Truck) (ns : List Need) (rn : List Int) (ca cb cc cr : Nat) (w0 : World) (hz : EdgsAt w0 A l) (ht : RowsAt 4 truckCells w0 B ts) (hn : RowsAt 2 needCells w0 C ns) (hcc : ns.length ≤ cc) (hr : IntsAt w0 R rn) (hrl : rn.length ≤ maxLen) (hrc : rn.length ≤ cr) (hE : walkE n l ts ns hd rt rn ≠ 0) :
    Calls Try.prog 32 #[.agg #[I n, .slice A l.length ca, .slice B ts.length cb, .slice C ns.length cc, I hd], .agg #[I rt, .slice R rn.length cr]] w0 fun e w' => e = .returned (.tuple #[.pointer none, .slice none 0 0, I (walkE n l ts ns hd rt rn)]) ∧ SH w0 [] w' [] :=
  Calls.mono (truckWalk n hd rt A B C R l ts ns rn ca cb cc cr w0 hz ht hn hcc hr hrl hrc) fun _ _ h => h.1 hE
theorem truckDriving (n hd rt : Int) (A B C R : Option Addr) (l : List Edg) (ts : List Truck) (ns : List Need) (rn : List Int) (ca cb cc cr : Nat) (w0 : World) (hz : EdgsAt w0 A l) (ht : RowsAt 4 truckCells w0 B ts) (hn : RowsAt 2 needCells w0 C ns) (hcc : ns.length ≤ cc) (hr : IntsAt w0 R rn) (hrl : rn.length ≤ maxLen) (hrc : rn.length ≤ cr) :
    Calls Try.prog 19 #[.agg #[I n, .slice A l.length ca, .slice B ts.length cb, .slice C ns.length cc, I hd], .agg #[I rt, .slice R rn.length cr]] w0 fun e w' =>
      e = .returned (.tuple #[I (outD n l ts ns hd rt rn), I (walkE n l ts ns hd rt rn)]) ∧ Below w0.heap.size w0 w' := by
  have H := SH.refl w0
  by_cases hE : walkE n l ts ns hd rt rn = 0
  · have e1 : outD n l ts ns hd rt rn = (walkT n l ts ns hd rt rn).driven := if_pos hE
    rw [e1]
    refine Calls.ofWP Try.func19 rfl Try.results19 Try.ntmps19 rfl ?_
    refine WP.seq ?_
    refine WP.region ?_
    refine OPS.box rfl rfl rfl rfl (cA rfl) H ?_
    clear H; intro g2 w H
    refine OPS.box rfl rfl rfl rfl (cA rfl) H ?_
    clear H; intro g3 w H
    refine OPS.val rfl rfl rfl (Ev.asI rfl) ?_
    refine OPS.val rfl rfl rfl (Ev.asI rfl) ?_
    refine OPS.nil ?_
    refine WP.seq ?_
    refine WP.region ?_
    refine OPS.val rfl rfl rfl ((by exact Ev.loadO 1 H rfl (agg_run rfl) (size_run rfl) (by rfl) rfl)) ?_
    refine OPS.val rfl rfl rfl ((by exact Ev.loadO 0 H rfl (agg_run rfl) (size_run rfl) (by rfl) rfl)) ?_
    refine OPS.call (d := some 12) rfl rfl rfl (EvC.func (fun_run rfl)) (truckWalk1 n hd rt A B C R l ts ns rn ca cb cc cr w (hz.sh H) (ht.sh H) (hn.sh H) hcc (hr.sh H) hrl hrc hE) ?_
    rintro _ w ⟨g, m, V, cv, Lv, rfl, rfl, hO, Hc⟩
    refine ⟨_, rfl, ?_⟩
    replace H := SH.call (L1 := [_, _]) (Lv := []) H Hc
    clear Hc
    rw [hE]
    unfold tourCells truckCells nightL at H
    simp only [List.cons_append, List.nil_append] at H
    refine OPS.val rfl rfl rfl (Ev.mvT rfl) ?_
    refine OPS.val rfl rfl rfl (Ev.extract rfl rfl) ?_
    refine OPS.val rfl rfl rfl (Ev.extract rfl rfl) ?_
    refine OPS.val rfl rfl rfl (Ev.extract rfl rfl) ?_
    refine OPS.val rfl rfl rfl (Ev.asP rfl) ?_
    refine OPS.val rfl rfl rfl (Ev.asS rfl) ?_
    refine OPS.val rfl rfl rfl (Ev.asI rfl) ?_
    refine OPS.nil ?_
    refine WP.seq ?_
    refine WP.seq ?_
    refine WP.region ?_
    refine OPS.val rfl rfl rfl (Ev.mvI rfl) ?_
    refine OPS.val rfl rfl rfl (Ev.neq rfl rfl) ?_
    refine OPS.nil ?_
    refine WP.cond rfl (fun hc2 => ?_) (fun hc2 => ?_)
    · refine WP.seq ?_
      refine WP.region ?_
      refine OPS.val rfl rfl rfl (Ev.mvI rfl) ?_
      refine OPS.val rfl rfl rfl (Ev.asI rfl) ?_
      refine OPS.val rfl rfl rfl (Ev.asI rfl) ?_
      refine OPS.nil ?_
      refine WP.ret ⟨_, rfl, ?_⟩
      exact absurd hc2 (by decide)
    refine WP.skip ?_
    refine WP.seq ?_
    refine WP.region ?_
    refine OPS.val rfl rfl rfl (Ev.mvP rfl) ?_
    refine OPS.val rfl rfl rfl ((by exact Ev.nilCheckP rfl)) ?_
    refine OPS.val rfl rfl rfl (Ev.fieldAddr (fld_run rfl) rfl) ?_
    refine OPS.val rfl rfl rfl (Ev.load1 (agg_run rfl) rfl (by exact H.ldL 2 rfl _ rfl)) ?_
    refine OPS.val rfl rfl rfl (Ev.asI rfl) ?_
    refine OPS.val rfl rfl rfl (Ev.asI rfl) ?_
    refine OPS.nil ?_
    refine WP.ret ⟨_, rfl, ?_⟩
    exact ⟨rfl, H.below⟩
  · have e1 : outD n l ts ns hd rt rn = 0 := if_neg hE
    rw [e1]
    refine Calls.ofWP Try.func19 rfl Try.results19 Try.ntmps19 rfl ?_
    refine WP.seq ?_
    refine WP.region ?_
    refine OPS.box rfl rfl rfl rfl (cA rfl) H ?_
    clear H; intro g2 w H
    refine OPS.box rfl rfl rfl rfl (cA rfl) H ?_
    clear H; intro g3 w H
    refine OPS.val rfl rfl rfl (Ev.asI rfl) ?_
    refine OPS.val rfl rfl rfl (Ev.asI rfl) ?_
    refine OPS.nil ?_
    refine WP.seq ?_
    refine WP.region ?_
    refine OPS.val rfl rfl rfl ((by exact Ev.loadO 1 H rfl (agg_run rfl) (size_run rfl) (by rfl) rfl)) ?_
    refine OPS.val rfl rfl rfl ((by exact Ev.loadO 0 H rfl (agg_run rfl) (size_run rfl) (by rfl) rfl)) ?_
    refine OPS.call (d := some 12) rfl rfl rfl (EvC.func (fun_run rfl)) (truckWalk0 n hd rt A B C R l ts ns rn ca cb cc cr w (hz.sh H) (ht.sh H) (hn.sh H) hcc (hr.sh H) hrl hrc hE) ?_
    rintro _ w ⟨rfl, Hc⟩
    refine ⟨_, rfl, ?_⟩
    replace H := SH.call (L1 := [_, _]) (Lv := []) H Hc
    clear Hc
    refine OPS.val rfl rfl rfl (Ev.mvT rfl) ?_
    refine OPS.val rfl rfl rfl (Ev.extract rfl rfl) ?_
    refine OPS.val rfl rfl rfl (Ev.extract rfl rfl) ?_
    refine OPS.val rfl rfl rfl (Ev.extract rfl rfl) ?_
    refine OPS.val rfl rfl rfl (Ev.asP rfl) ?_
    refine OPS.val rfl rfl rfl (Ev.asS rfl) ?_
    refine OPS.val rfl rfl rfl (Ev.asI rfl) ?_
    refine OPS.nil ?_
    refine WP.seq ?_
    refine WP.seq ?_
    refine WP.region ?_
    refine OPS.val rfl rfl rfl (Ev.mvI rfl) ?_
    refine OPS.val rfl rfl rfl (Ev.neq rfl rfl) ?_
    refine OPS.nil ?_
    refine WP.cond rfl (fun hc2 => ?_) (fun hc2 => ?_)
    · refine WP.seq ?_
      refine WP.region ?_
      refine OPS.val rfl rfl rfl (Ev.mvI rfl) ?_
      refine OPS.val rfl rfl rfl (Ev.asI rfl) ?_
      refine OPS.val rfl rfl rfl (Ev.asI rfl) ?_
      refine OPS.nil ?_
      refine WP.ret ⟨_, rfl, ?_⟩
      exact ⟨rfl, H.below⟩
    refine WP.skip ?_
    refine WP.seq ?_
    exact absurd hc2 (by simp [hE])
end Go.Proofs.Ytfddebpeiilohaa

/-
  Walks: Check of a question.
-/
set_option linter.all false
namespace Go.Proofs.Ytfddebpeiilohaa
open Go Go.W Go.RowKit

theorem cmpT_sub (zs : List Int) : ∀ {i : Nat}, i ≤ zs.length → (cmpT zs i).Sublist (zs.take i)
  | 0, _ => by simp [cmpT]
  | i + 1, h => by
    rw [cmpT, List.take_succ_eq_append_getElem (show i < zs.length by omega)]
    refine List.Sublist.append (cmpT_sub zs (by omega)) ?_
    split
    · exact List.nil_sublist _
    · rw [getI (show i < zs.length by omega)]; exact List.Sublist.refl _
theorem cmpT_nodup (l : List Int) : (cmpT (srt l) l.length).length = l.length ↔ l.Nodup := by
  have hl := srt_len l
  constructor
  · intro h
    have h1 := cmpT_sub (srt l) (i := l.length) (by omega)
    rw [show (srt l).take l.length = srt l by rw [← hl, List.take_length]] at h1
    have h2 := h1.eq_of_length (by omega)
    have h3 := cmpT_sorted (srt_sorted l) (i := l.length) (by omega)
    rw [h2] at h3
    exact (srt_perm l).nodup_iff.1 (List.nodup_iff_pairwise_ne.2 (h3.imp fun h => by omega))
  · intro h
    have h1 := (srt_perm l).nodup_iff.2 h
    rw [cmpT_id (by omega) (fun j h0 hj => ?_), List.length_take]
    · omega
    · rw [getI (show j < (srt l).length by omega), getI (show j - 1 < (srt l).length by omega)]
      intro he
      have := (List.getElem_inj h1).1 he
      omega
theorem compS (A : Option Addr) (c : Nat) (zs : List Int) (Lo : List Blk) (w0 : World) (hl : zs.length ≤ 1000) (hO : OwnS A c zs.length (zs.map I) 3 1 Lo) (H0 : SH w0 (Lo.map (·.g)) w0 Lo) :
    Calls Try.prog 39 #[.slice A zs.length c] w0 fun e w' => ∃ Lo', e = .returned (.slice A (cmpT zs zs.length).length c) ∧ SH w0 (Lo.map (·.g)) w' Lo' := by
  rcases hO.form with ⟨rfl, h0, rfl, rfl⟩ | ⟨g, sp, rfl, rfl, h1, h2, h3⟩
  · have : zs = [] := List.eq_nil_of_length_eq_zero h0
    subst this
    refine (Try.slices_Compact_int_empty none 0 w0).mono ?_
    rintro e w' ⟨rfl, rfl⟩
    exact ⟨[], rfl, H0⟩
  · refine (slCompact g zs sp c w0 H0 (by omega) h1).mono ?_
    rintro e w' ⟨sp', rfl, Hc⟩
    exact ⟨_, rfl, Hc⟩
def askErr (n : Int) (l : List Edg) (ts : List Truck) (ns : List Need) (hd rt : Int) (rn : List Int) : Int :=
  if nightErr n l ts ns hd ≠ 0 then nightErr n l ts ns hd else if routeErr ts ns rt rn ≠ 0 then routeErr ts ns rt rn else if 6 < rn.length then 8 else 0
theorem routeCheckF (i : Int) (g k cc : Nat) (C : Option Addr) (w0 : World) (hk : k ≤ 1000) (hc : w0.cell? ⟨g, 3, none⟩ = some (.slice C k cc)) :
    Calls Try.prog 35 #[I i, .pointer (some ⟨g, 0, none⟩)] w0 fun e w' => e = .returned (.bool (outB k i)) ∧ Below w0.heap.size w0 w' := by
  have H := SH.refl w0
  have he : outB k i = (decide (i < 0) || decide ((k : Int) ≤ i)) := by
    unfold outB inB
    rw [Bool.eq_iff_iff]; simp; omega
  rw [he]
  refine Calls.ofWP Try.func35 rfl Try.results35 Try.ntmps35 rfl ?_
  refine WP.seq ?_
  refine WP.region ?_
  refine OPS.val rfl rfl rfl (Ev.asB rfl) ?_
  refine OPS.nil ?_
  refine WP.seq ?_
  refine WP.region ?_
  refine OPS.val rfl rfl rfl (Ev.mvI rfl) ?_
  refine OPS.val rfl rfl rfl (Ev.lss rfl rfl) ?_
  refine OPS.val rfl rfl rfl (Ev.mvB rfl) ?_
  refine OPS.gval rfl rfl rfl rfl rfl (fun hg => Ev.mvI (by rfl)) ?_
  refine OPS.gval rfl rfl rfl rfl rfl (fun hg => Ev.fieldAddr (fld_run rfl) (by rfl)) ?_
  refine OPS.gval rfl rfl rfl rfl rfl (fun hg => Ev.load1 (agg_run rfl) (by exact gvE hg rfl) (by exact H.ld0 (by assumption))) ?_
  refine OPS.gval rfl rfl rfl rfl rfl (fun hg => Ev.len (el_run rfl) (by exact gvE hg rfl)) ?_
  refine OPS.gval rfl rfl rfl rfl rfl (fun hg => Ev.geq (by exact gvE hg rfl) (by exact gvE hg rfl)) ?_
  refine OPS.val rfl rfl rfl ((by exact Ev.pickOr rfl rfl rfl)) ?_
  refine OPS.val rfl rfl rfl (Ev.asB rfl) ?_
  refine OPS.nil ?_
  refine WP.ret ⟨_, rfl, ?_⟩
  exact ⟨rfl, H.below⟩
set_option maxHeartbeats 1000000 in
theorem routeCheck (n hd rt : Int) (A B C R : Option Addr) (l : List Edg) (ts : List Truck) (ns : List Need) (rn : List Int) (ca cb cc cr : Nat) (w0 : World) (hz : EdgsAt w0 A l) (ht : RowsAt 4 truckCells w0 B ts) (hn : RowsAt 2 needCells w0 C ns) (hcc : ns.length ≤ cc) (hr : IntsAt w0 R rn) (hrl : rn.length ≤ 1000) :
    Calls Try.prog 23 #[.agg #[I n, .slice A l.length ca, .slice B ts.length cb, .slice C ns.length cc, I hd], I rt, .slice R rn.length cr] w0 fun e w' => e = .returned (I (askErr n l ts ns hd rt rn)) ∧ Below w0.heap.size w0 w' := by
  have H := SH.refl w0
  have hsl := srt_len rn
  refine Calls.ofWP Try.func23 rfl Try.results23 Try.ntmps23 rfl ?_
  refine WP.seq ?_
  refine WP.region ?_
  refine OPS.box rfl rfl rfl rfl (cA rfl) H ?_
  clear H; intro g3 w H
  refine OPS.val rfl rfl rfl (Ev.asI rfl) ?_
  refine OPS.nil ?_
  refine WP.seq ?_
  refine WP.seq ?_
  refine WP.region ?_
  refine OPS.val rfl rfl rfl ((by exact Ev.loadO 0 H rfl (agg_run rfl) (size_run rfl) (by rfl) rfl)) ?_
  refine OPS.call (d := some 11) rfl rfl rfl (EvC.func (fun_run rfl)) (truckCheck n hd A B C l ts ns ca cb cc w (hz.sh H) (ht.sh H) (hn.sh H) hcc) ?_
  rintro _ w ⟨rfl, hb⟩
  refine ⟨_, rfl, ?_⟩
  replace H := H.toBelow hb; clear hb
  refine OPS.val rfl rfl rfl (Ev.asI rfl) ?_
  refine OPS.nil ?_
  refine WP.seq ?_
  refine WP.region ?_
  refine OPS.val rfl rfl rfl (Ev.mvI rfl) ?_
  refine OPS.val rfl rfl rfl (Ev.neq rfl rfl) ?_
  refine OPS.nil ?_
  refine WP.cond rfl (fun hc2 => ?_) (fun hc2 => ?_)
  · refine WP.seq ?_
    refine WP.region ?_
    refine OPS.val rfl rfl rfl (Ev.mvI rfl) ?_
    refine OPS.val rfl rfl rfl (Ev.asI rfl) ?_
    refine OPS.nil ?_
    refine WP.ret ⟨_, rfl, ?_⟩
    have h : nightErr n l ts ns hd ≠ 0 := by simpa using hc2
    exact ⟨by rw [askErr, if_pos h]; rfl, H.below⟩
  have h0 : nightErr n l ts ns hd = 0 := by simpa using hc2
  obtain ⟨m, rfl, hN⟩ := nightOk_of h0
  have htl := hN.tl
  have hnl := hN.nl
  have he0 : askErr m l ts ns hd rt rn = if routeErr ts ns rt rn ≠ 0 then routeErr ts ns rt rn else if 6 < rn.length then 8 else 0 := by rw [askErr, if_neg (by simp [h0])]
  have hout : outB ts.length rt = (decide (rt < 0) || decide ((ts.length : Int) ≤ rt)) := by
    unfold outB inB
    rw [Bool.eq_iff_iff]; simp; omega
  refine WP.skip ?_
  refine WP.seq ?_
  refine WP.region ?_
  refine OPS.val rfl rfl rfl (Ev.makeFunc) ?_
  refine OPS.val rfl rfl rfl (Ev.asF rfl) ?_
  refine OPS.nil ?_
  refine WP.seq ?_
  refine WP.seq ?_
  refine WP.region ?_
  refine OPS.val rfl rfl rfl (Ev.mvI rfl) ?_
  refine OPS.val rfl rfl rfl (Ev.lss rfl rfl) ?_
  refine OPS.val rfl rfl rfl (Ev.mvB rfl) ?_
  refine OPS.gval rfl rfl rfl rfl rfl (fun hg => Ev.mvI (by rfl)) ?_
  refine OPS.gval rfl rfl rfl rfl rfl (fun hg => Ev.fieldAddr (fld_run rfl) (by rfl)) ?_
  refine OPS.gval rfl rfl rfl rfl rfl (fun hg => Ev.load1 (agg_run rfl) (by exact gvE hg rfl) (by exact H.ldL 0 rfl _ rfl)) ?_
  refine OPS.gval rfl rfl rfl rfl rfl (fun hg => Ev.len (el_run rfl) (by exact gvE hg rfl)) ?_
  refine OPS.gval rfl rfl rfl rfl rfl (fun hg => Ev.geq (by exact gvE hg rfl) (by exact gvE hg rfl)) ?_
  refine OPS.val rfl rfl rfl ((by exact Ev.pickOr rfl rfl rfl)) ?_
  refine OPS.val rfl rfl rfl (Ev.mvB rfl) ?_
  refine OPS.gval rfl rfl rfl rfl rfl (fun hg => Ev.mvS (by rfl)) ?_
  refine OPS.gval rfl rfl rfl rfl rfl (fun hg => Ev.mvF (by rfl)) ?_
  refine OPS.gcall0 (f := 36) (slContainsFuncI R rn cr _ [.pointer (some ⟨g3, 0, none⟩)] (outB ns.length) _ (hr.sh H) (by unfold maxLen; omega) rfl (fun i _ w2 hb => routeCheckF i g3 ns.length cc C w2 (by omega) (cell_below hb (H.ldL 0 rfl 3 rfl)))) (fun _ _ h => h) rfl rfl rfl rfl rfl (fun hg => EvC.conv (EvC.func (fun_run rfl)) (l2 (by exact gvE hg rfl) (by exact gvE hg rfl))) ?_
  intro w hbc; replace H := H.toBelow hbc
  refine OPS.val rfl rfl rfl ((by exact Ev.pickOr rfl rfl rfl)) ?_
  refine OPS.nil ?_
  refine WP.cond rfl (fun hc5 => ?_) (fun hc5 => ?_)
  · refine WP.seq ?_
    refine WP.region ?_
    refine OPS.val rfl rfl rfl (Ev.asI rfl) ?_
    refine OPS.nil ?_
    refine WP.ret ⟨_, rfl, ?_⟩
    have he : routeErr ts ns rt rn = 7 := by
      unfold routeErr
      rw [if_pos]
      rw [hout]; simpa using hc5
    exact ⟨by rw [he0, he]; rfl, H.below⟩
  have hno : ¬ (outB ts.length rt = true ∨ rn.any (outB ns.length) = true) := by rw [hout]; simpa using hc5
  have he1 : routeErr ts ns rt rn = if twiceB rn = true then 6 else 0 := by
    unfold routeErr
    rw [if_neg hno]
  refine WP.skip ?_
  refine WP.seq ?_
  refine WP.region ?_
  refine OPS.val rfl rfl rfl (Ev.mvS rfl) ?_
  refine OPS.call (d := some 31) rfl rfl rfl (EvC.func (fun_run rfl)) (slValues R rn.length cr w) ?_
  rintro _ w ⟨gv, rfl, Hc⟩
  refine ⟨_, rfl, ?_⟩
  replace H := SH.call (L1 := []) (Lv := []) (H.drop (List.nil_sublist _)) Hc
  clear Hc
  refine OPS.call (d := some 32) rfl rfl rfl (EvC.func (fun_run rfl)) (slSorted gv R rn cr w (hr.sh H) hrl (by have := H.own ⟨gv, 29, [.slice R rn.length cr]⟩ (by simp); simpa using this)) ?_
  rintro _ w ⟨S, c, Lo, rfl, hO, Hc⟩
  refine ⟨_, rfl, ?_⟩
  replace H := SH.call (L1 := []) (Lv := []) (H.drop (List.nil_sublist _)) Hc
  clear Hc
  have hcm := cmpT_nodup rn
  rw [← hsl] at hO
  rw [← hsl]
  refine OPS.val rfl rfl rfl (Ev.asS rfl) ?_
  refine OPS.nil ?_
  refine WP.seq ?_
  refine WP.seq ?_
  refine WP.region ?_
  refine OPS.val rfl rfl rfl (Ev.mvS rfl) ?_
  refine OPS.call (d := some 34) rfl rfl rfl (EvC.func (fun_run rfl)) (compS S c (srt rn) Lo w (by omega) hO (H.restart (List.Sublist.refl _))) ?_
  rintro _ w ⟨Lo', rfl, Hc⟩
  refine ⟨_, rfl, ?_⟩
  replace H := SH.call (L1 := []) (Lv := Lo) H Hc
  refine OPS.val rfl rfl rfl (Ev.len (el_run rfl) rfl) ?_
  refine OPS.val rfl rfl rfl (Ev.mvS rfl) ?_
  refine OPS.val rfl rfl rfl (Ev.len (el_run rfl) rfl) ?_
  refine OPS.val rfl rfl rfl (Ev.neq rfl rfl) ?_
  refine OPS.nil ?_
  refine WP.cond rfl (fun hc8 => ?_) (fun hc8 => ?_)
  · refine WP.seq ?_
    refine WP.region ?_
    refine OPS.val rfl rfl rfl (Ev.asI rfl) ?_
    refine OPS.nil ?_
    refine WP.ret ⟨_, rfl, ?_⟩
    have he : routeErr ts ns rt rn = 6 := by
      rw [he1, if_pos]
      have : (cmpT (srt rn) (srt rn).length).length ≠ rn.length := by simp at hc8; omega
      unfold twiceB
      rw [hsl] at this
      simpa using fun h => this (hcm.2 h)
    exact ⟨by rw [he0, he]; rfl, H.below⟩
  have he : routeErr ts ns rt rn = 0 := by
    rw [he1, if_neg]
    have : (cmpT (srt rn) (srt rn).length).length = rn.length := by simp at hc8; omega
    unfold twiceB
    rw [hsl] at this
    simpa using hcm.1 this
  refine WP.skip ?_
  refine WP.seq ?_
  refine WP.seq ?_
  refine WP.region ?_
  refine OPS.val rfl rfl rfl (Ev.mvS rfl) ?_
  refine OPS.val rfl rfl rfl (Ev.len (el_run rfl) rfl) ?_
  refine OPS.val rfl rfl rfl (Ev.gtr rfl rfl) ?_
  refine OPS.nil ?_
  refine WP.cond rfl (fun hc10 => ?_) (fun hc10 => ?_)
  · refine WP.seq ?_
    refine WP.region ?_
    refine OPS.val rfl rfl rfl (Ev.asI rfl) ?_
    refine OPS.nil ?_
    refine WP.ret ⟨_, rfl, ?_⟩
    exact ⟨by rw [he0, he, if_neg (by simp), if_pos (by simp at hc10; omega)]; rfl, H.below⟩
  refine WP.skip ?_
  refine WP.seq ?_
  refine WP.region ?_
  refine OPS.val rfl rfl rfl (Ev.asI rfl) ?_
  refine OPS.nil ?_
  refine WP.ret ⟨_, rfl, ?_⟩
  exact ⟨by rw [he0, he, if_neg (by simp), if_neg (by simp at hc10; omega)]; rfl, H.below⟩
end Go.Proofs.Ytfddebpeiilohaa

/-
  Lists of rows as sources of append; permutations of blocks by counting.
-/
set_option linter.all false
namespace Go.W
open Go.RowKit
open Classical in
theorem sumCount {α : Type} (l : List α) (x : α) : (l.map fun a => if a = x then 1 else 0).sum = l.count x := by
  induction l with
  | nil => rfl
  | cons a l ih =>
    rw [List.map_cons, List.sum_cons, ih, List.count_cons]
    by_cases h : a = x <;> simp [h] <;> omega
open Classical in
theorem permBy {α : Type} {l l' : List α} (h : ∀ f : α → Nat, (l.map f).sum = (l'.map f).sum) : l.Perm l' :=
  List.perm_iff_count.2 fun x => by rw [← sumCount, ← sumCount]; exact h _
theorem cellsApp {w : World} {b : Nat} : ∀ {vs us : List Value} {o : Nat}, cellsAt w b o vs → cellsAt w b (o + vs.length) us → cellsAt w b o (vs ++ us)
  | [], us, o, _, h => by simpa using h
  | v :: vs, us, o, h1, h2 => ⟨h1.1, cellsApp h1.2 (by rw [show o + 1 + vs.length = o + (v :: vs).length by simp; omega]; exact h2)⟩
theorem rowsCellsAt {α : Type} {sz : Nat} {enc : α → List Value} {w : World} (hsz : ∀ x, (enc x).length = sz) : ∀ (l : List α) {b : Nat} (o : Nat), RowsAt sz enc w (some ⟨b, o, none⟩) l → cellsAt w b o (l.flatMap enc)
  | [], _, _, _ => trivial
  | x :: l, b, o, h => by
    rw [List.flatMap_cons]
    have h0 := h 0 (by simp)
    obtain ⟨b0, o0, e, h1⟩ := h0
    cases e
    refine cellsApp (by simpa using h1) ?_
    rw [hsz]
    refine rowsCellsAt hsz l (o + sz) fun k hk => ?_
    obtain ⟨b1, o1, e1, h2⟩ := h (k + 1) (by simpa using hk)
    cases e1
    refine ⟨_, _, rfl, ?_⟩
    rw [show o + sz + k * sz = o + (k + 1) * sz by rw [Nat.succ_mul]; omega]
    simpa using h2
theorem rowsFrom {α : Type} {sz : Nat} {enc : α → List Value} {w : World} {A : Option Addr} {l : List α} (hsz : ∀ x, (enc x).length = sz) (h : RowsAt sz enc w A l) : l.length = 0 ∨ ∃ b o, A = some ⟨b, o, none⟩ ∧ cellsAt w b o (l.flatMap enc) := by
  rcases Nat.eq_zero_or_pos l.length with h0 | h0
  · exact .inl h0
  · obtain ⟨b, o, rfl, _⟩ := h 0 h0
    exact .inr ⟨b, o, rfl, rowsCellsAt hsz l o h⟩
theorem rowsOne {α : Type} {enc : α → List Value} (he : ∀ x, ((enc x).all (·.oneCell')) = true) (l : List α) : ((l.flatMap enc).all (·.oneCell')) = true := by
  rw [List.all_eq_true]
  intro v hv
  obtain ⟨x, _, hx⟩ := List.mem_flatMap.1 hv
  exact List.all_eq_true.1 (he x) v hx
theorem OwnS.mt {g el sz : Nat} : OwnS (some ⟨g, 0, none⟩) 0 0 [] el sz [⟨g, el, []⟩] := ⟨by simp, .inr ⟨g, [], rfl, rfl, Nat.le_refl _, by unfold maxLen; omega, by simp⟩⟩
/-- these blocks are among those -/
class Sb (L' L : List Blk) : Prop where
  out : L'.Sublist L
instance (L : List Blk) : Sb L L := ⟨List.Sublist.refl _⟩
instance (L M N : List Blk) [h : Sb L N] : Sb L (M ++ N) := ⟨h.out.trans (List.sublist_append_right _ _)⟩
instance (L M N : List Blk) [h : Sb L M] : Sb L (M ++ N) := ⟨h.out.trans (List.sublist_append_left _ _)⟩
instance (L M : List Blk) (b : Blk) [h : Sb L M] : Sb L (b :: M) := ⟨h.out.cons b⟩
end Go.W

/-
  Walks: comparisons, a copy of a list, how much is moved.
-/
set_option linter.all false
namespace Go.Proofs.Ytfddebpeiilohaa
open Go Go.W Go.RowKit

def cmpI (a b : Int) : Int := if a < b then -1 else if b < a then 1 else 0
theorem cmpCompare (a b : Int) (w0 : World) : Calls Try.prog 47 #[I a, I b] w0 fun e w' => e = .returned (I (cmpI a b)) ∧ Below w0.heap.size w0 w' := by
  have H := SH.refl w0
  refine Calls.ofWP Try.func47 rfl Try.results47 Try.ntmps47 rfl ?_
  refine WP.seq ?_
  refine WP.region ?_
  refine OPS.val rfl rfl rfl (Ev.asI rfl) ?_
  refine OPS.nil ?_
  refine WP.seq ?_
  refine WP.region ?_
  refine OPS.val rfl rfl rfl (Ev.mvI rfl) ?_
  refine OPS.call (d := some 8) rfl rfl rfl (EvC.func (fun_run rfl)) (cmpNaN a _) ?_
  rintro _ w ⟨rfl, hb⟩
  refine ⟨_, rfl, ?_⟩
  replace H := H.toBelow hb; clear hb
  refine OPS.val rfl rfl rfl (Ev.asB rfl) ?_
  refine OPS.nil ?_
  refine WP.seq ?_
  refine WP.region ?_
  refine OPS.val rfl rfl rfl (Ev.mvI rfl) ?_
  refine OPS.call (d := some 10) rfl rfl rfl (EvC.func (fun_run rfl)) (cmpNaN b _) ?_
  rintro _ w ⟨rfl, hb⟩
  refine ⟨_, rfl, ?_⟩
  replace H := H.toBelow hb; clear hb
  refine OPS.val rfl rfl rfl (Ev.asB rfl) ?_
  refine OPS.nil ?_
  refine WP.seq ?_
  refine WP.seq ?_
  refine WP.region ?_
  refine OPS.val rfl rfl rfl (Ev.mvB rfl) ?_
  refine OPS.nil ?_
  refine WP.cond rfl (fun hc3 => ?_) (fun hc3 => ?_)
  · refine WP.seq ?_
    refine WP.seq ?_
    refine WP.region ?_
    refine OPS.val rfl rfl rfl (Ev.mvB rfl) ?_
    refine OPS.nil ?_
    refine WP.cond rfl (fun hc4 => ?_) (fun hc4 => ?_)
    · refine WP.seq ?_
      refine WP.region ?_
      refine OPS.val rfl rfl rfl (Ev.asI rfl) ?_
      refine OPS.nil ?_
      refine WP.ret ⟨_, rfl, ?_⟩
      cases hc3
    refine WP.skip ?_
    refine WP.seq ?_
    refine WP.region ?_
    refine OPS.val rfl rfl rfl (Ev.asI rfl) ?_
    refine OPS.nil ?_
    refine WP.ret ⟨_, rfl, ?_⟩
    cases hc3
  refine WP.skip ?_
  refine WP.seq ?_
  refine WP.seq ?_
  refine WP.region ?_
  refine OPS.val rfl rfl rfl (Ev.mvB rfl) ?_
  refine OPS.nil ?_
  refine WP.cond rfl (fun hc7 => ?_) (fun hc7 => ?_)
  · refine WP.seq ?_
    refine WP.region ?_
    refine OPS.val rfl rfl rfl (Ev.asI rfl) ?_
    refine OPS.nil ?_
    refine WP.ret ⟨_, rfl, ?_⟩
    cases hc7
  refine WP.skip ?_
  refine WP.seq ?_
  refine WP.seq ?_
  refine WP.region ?_
  refine OPS.val rfl rfl rfl (Ev.mvI rfl) ?_
  refine OPS.val rfl rfl rfl (Ev.mvI rfl) ?_
  refine OPS.val rfl rfl rfl (Ev.lss rfl rfl) ?_
  refine OPS.nil ?_
  refine WP.cond rfl (fun hc9 => ?_) (fun hc9 => ?_)
  · refine WP.seq ?_
    refine WP.region ?_
    refine OPS.val rfl rfl rfl (Ev.asI rfl) ?_
    refine OPS.nil ?_
    refine WP.ret ⟨_, rfl, ?_⟩
    have h : a < b := by simpa using hc9
    exact ⟨by rw [cmpI, if_pos h]; rfl, H.below⟩
  refine WP.skip ?_
  refine WP.seq ?_
  refine WP.seq ?_
  refine WP.region ?_
  refine OPS.val rfl rfl rfl (Ev.mvI rfl) ?_
  refine OPS.val rfl rfl rfl (Ev.mvI rfl) ?_
  refine OPS.val rfl rfl rfl (Ev.gtr rfl rfl) ?_
  refine OPS.nil ?_
  refine WP.cond rfl (fun hc11 => ?_) (fun hc11 => ?_)
  · refine WP.seq ?_
    refine WP.region ?_
    refine OPS.val rfl rfl rfl (Ev.asI rfl) ?_
    refine OPS.nil ?_
    refine WP.ret ⟨_, rfl, ?_⟩
    have h : ¬ a < b := by simpa using hc9
    have h2 : b < a := by simpa using hc11
    exact ⟨by rw [cmpI, if_neg h, if_pos h2]; rfl, H.below⟩
  refine WP.skip ?_
  refine WP.seq ?_
  refine WP.region ?_
  refine OPS.val rfl rfl rfl (Ev.asI rfl) ?_
  refine OPS.nil ?_
  refine WP.ret ⟨_, rfl, ?_⟩
  have h : ¬ a < b := by simpa using hc9
  have h2 : ¬ b < a := by simpa using hc11
  exact ⟨by rw [cmpI, if_neg h, if_neg h2]; rfl, H.below⟩
def orI : List Int → Int
  | [] => 0
  | x :: l => if x ≠ 0 then x else orI l
theorem orI_drop {l : List Int} : ∀ {j : Nat}, j ≤ l.length → (∀ i (h : i < l.length), i < j → l[i] = 0) → orI l = orI (l.drop j)
  | 0, _, _ => by simp
  | j + 1, hj, h => by
    rw [orI_drop (j := j) (by omega) (fun i h1 h2 => h i h1 (by omega)), List.drop_eq_getElem_cons (show j < l.length by omega), orI, if_neg (by simpa using h j (by omega) (by omega))]
theorem cmpOr (A : Option Addr) (l : List Int) (cap : Nat) (w0 : World) (hz : IntsAt w0 A l) (hl : l.length ≤ 1000) :
    Calls Try.prog 46 #[.slice A l.length cap] w0 fun e w' => e = .returned (I (orI l)) ∧ Below w0.heap.size w0 w' := by
  have H := SH.refl w0
  refine Calls.ofWP Try.func46 rfl Try.results46 Try.ntmps46 rfl ?_
  refine WP.seq ?_
  refine WP.region ?_
  refine OPS.val rfl rfl rfl (Ev.asI rfl) ?_
  refine OPS.nil ?_
  refine WP.seq ?_
  refine WP.region ?_
  refine OPS.val rfl rfl rfl (Ev.asI rfl) ?_
  refine OPS.nil ?_
  refine WP.seq ?_
  refine WP.seq ?_
  refine WP.region ?_
  refine OPS.val rfl rfl rfl (Ev.mvS rfl) ?_
  refine OPS.val rfl rfl rfl (Ev.len (el_run rfl) rfl) ?_
  refine OPS.val rfl rfl rfl (Ev.mvI rfl) ?_
  refine OPS.nil ?_
  refine WP.block ?_
  refine WP.loop [2, 5, 8, 9, 10, 11, 12, 13, 14, 15, 16] (fun k e w' => ∃ (j : Nat), j + k = l.length ∧ e 8 = I j ∧ (∀ i (h : i < l.length), i < j → l[i] = 0) ∧ SH w0 [] w' []) (l.length) (⟨0, by omega, rfl, fun _ _ _ => by omega, H⟩) ?_
  clear H
  rintro k u w ⟨j, hk, h8, hall, H⟩
  refine WP.know (t := 8) h8 ?_
  refine WP.seq ?_
  refine WP.region ?_
  refine OPS.val rfl rfl rfl (Ev.lss rfl rfl) ?_
  refine OPS.nil ?_
  refine WP.seq ?_
  refine WP.cond rfl (fun hc3 => ?_) (fun hc3 => ?_)
  · have hlt : j < l.length := by simpa using hc3
    obtain ⟨b, o, rfl, hx⟩ := hz j hlt
    refine WP.skip ?_
    refine WP.seq ?_
    refine WP.block ?_
    refine WP.seq ?_
    refine WP.region ?_
    refine OPS.val rfl rfl rfl ((by exact Ev.indexAddr1 (el_run rfl) (size_run rfl) rfl rfl rfl (by omega))) ?_
    refine OPS.val rfl rfl rfl (Ev.load1 (agg_run rfl) rfl (by exact H.ld0 (by assumption))) ?_
    refine OPS.val rfl rfl rfl (Ev.asI rfl) ?_
    refine OPS.nil ?_
    refine WP.seq ?_
    refine WP.region ?_
    refine OPS.val rfl rfl rfl (Ev.mvI rfl) ?_
    refine OPS.val rfl rfl rfl (Ev.mvI rfl) ?_
    refine OPS.val rfl rfl rfl (Ev.neq rfl rfl) ?_
    refine OPS.nil ?_
    refine WP.cond rfl (fun hc5 => ?_) (fun hc5 => ?_)
    · refine WP.seq ?_
      refine WP.region ?_
      refine OPS.val rfl rfl rfl (Ev.mvI rfl) ?_
      refine OPS.val rfl rfl rfl (Ev.asI rfl) ?_
      refine OPS.nil ?_
      refine WP.ret ⟨_, rfl, ?_⟩
      have hne : l[j] ≠ 0 := by simpa using hc5
      exact ⟨by rw [orI_drop (j := j) (by omega) hall, List.drop_eq_getElem_cons hlt, orI, if_pos hne]; rfl, H.below⟩
    have hne : l[j] = 0 := by simpa using hc5
    refine WP.skip ?_
    refine WP.region ?_
    refine OPS.val rfl rfl rfl (Ev.add rfl rfl (by unfold fits; omega)) ?_
    refine OPS.val rfl rfl rfl (Ev.mvI rfl) ?_
    refine OPS.nil ?_
    exact ⟨(by repeat (first | exact Agree.refl _ _ | exact Agree.mix _ _ _ | refine Agree.upd rfl ?_ | refine Agree.mix2 rfl ?_)), k - 1, by omega, j + 1, by omega, rfl, (fun i h1 h2 => by
      rcases Nat.lt_or_eq_of_le (Nat.le_of_lt_succ h2) with h | rfl
      · exact hall i h1 h
      · exact hne), H⟩
  refine WP.exit ?_
  refine XB.hit ?_
  refine WP.seq ?_
  refine WP.region ?_
  refine OPS.val rfl rfl rfl (Ev.mvI rfl) ?_
  refine OPS.val rfl rfl rfl (Ev.asI rfl) ?_
  refine OPS.nil ?_
  refine WP.ret ⟨_, rfl, ?_⟩
  have hj : j = l.length := by simp at hc3; omega
  exact ⟨by rw [orI_drop (j := j) (by omega) hall, hj, List.drop_length]; rfl, H.below⟩
def cmpLs : List Int → List Int → Int
  | [], [] => 0
  | [], _ :: _ => -1
  | _ :: _, [] => 1
  | x :: a, y :: b => if cmpI x y ≠ 0 then cmpI x y else cmpLs a b
theorem cmpLs_neg : ∀ (a b : List Int), cmpLs a b < 0 ↔ lexB a b = true
  | [], [] => by simp [cmpLs, lexB]
  | [], _ :: _ => by simp [cmpLs, lexB]
  | _ :: _, [] => by simp [cmpLs, lexB]
  | x :: a, y :: b => by
    have ih := cmpLs_neg a b
    rw [cmpLs, lexB, cmpI]
    by_cases h1 : x < y
    · simp [h1]
    · by_cases h2 : y < x
      · simp [h1, h2]
      · simp [h1, h2, ih]
theorem cmpLs_drop {a b : List Int} : ∀ {j : Nat}, j ≤ a.length → j ≤ b.length → (∀ i (h : i < a.length) (h2 : i < b.length), i < j → a[i] = b[i]) → cmpLs a b = cmpLs (a.drop j) (b.drop j)
  | 0, _, _, _ => by simp
  | j + 1, h1, h2, h => by
    rw [cmpLs_drop (j := j) (by omega) (by omega) (fun i q1 q2 q3 => h i q1 q2 (by omega)), List.drop_eq_getElem_cons (show j < a.length by omega), List.drop_eq_getElem_cons (show j < b.length by omega), cmpLs, h j (by omega) (by omega) (by omega), if_neg (by simp [cmpI])]
theorem slCompare (A B : Option Addr) (a b : List Int) (c1 c2 : Nat) (w0 : World) (ha : IntsAt w0 A a) (hb : IntsAt w0 B b) (hl : a.length ≤ 1000) (hl2 : b.length ≤ 1000) :
    Calls Try.prog 48 #[.slice A a.length c1, .slice B b.length c2] w0 fun e w' => e = .returned (I (cmpLs a b)) ∧ Below w0.heap.size w0 w' := by
  have H := SH.refl w0
  refine Calls.ofWP Try.func48 rfl Try.results48 Try.ntmps48 rfl ?_
  refine WP.seq ?_
  refine WP.region ?_
  refine OPS.val rfl rfl rfl (Ev.asI rfl) ?_
  refine OPS.nil ?_
  refine WP.seq ?_
  refine WP.seq ?_
  refine WP.region ?_
  refine OPS.val rfl rfl rfl (Ev.mvS rfl) ?_
  refine OPS.val rfl rfl rfl (Ev.len (el_run rfl) rfl) ?_
  refine OPS.val rfl rfl rfl (Ev.mvI rfl) ?_
  refine OPS.nil ?_
  refine WP.block ?_
  refine WP.loop [4, 5, 6, 7, 8, 11, 12, 13, 14, 15, 16, 17, 18, 19, 20, 21, 22, 23, 24, 25, 26, 27, 28, 29, 30] (fun k e w' => ∃ (j : Nat), j + k = a.length ∧ e 11 = I j ∧ j ≤ b.length ∧ (∀ i (h : i < a.length) (h2 : i < b.length), i < j → a[i] = b[i]) ∧ SH w0 [] w' []) (a.length) (⟨0, by omega, rfl, by omega, fun _ _ _ _ => by omega, H⟩) ?_
  clear H
  rintro k u w ⟨j, hk, h11, hjb, hall, H⟩
  refine WP.know (t := 11) h11 ?_
  refine WP.seq ?_
  refine WP.region ?_
  refine OPS.val rfl rfl rfl (Ev.lss rfl rfl) ?_
  refine OPS.nil ?_
  refine WP.seq ?_
  refine WP.cond rfl (fun hc2 => ?_) (fun hc2 => ?_)
  · have hlt : j < a.length := by simpa using hc2
    obtain ⟨b1, o1, rfl, hx⟩ := ha j hlt
    refine WP.skip ?_
    refine WP.seq ?_
    refine WP.block ?_
    refine WP.seq ?_
    refine WP.region ?_
    refine OPS.val rfl rfl rfl (Ev.mvI rfl) ?_
    refine OPS.val rfl rfl rfl ((by exact Ev.indexAddr1 (el_run rfl) (size_run rfl) rfl rfl rfl (by omega))) ?_
    refine OPS.val rfl rfl rfl (Ev.load1 (agg_run rfl) rfl (by exact H.ld0 (by assumption))) ?_
    refine OPS.val rfl rfl rfl (Ev.asI rfl) ?_
    refine OPS.val rfl rfl rfl (Ev.asI rfl) ?_
    refine OPS.nil ?_
    refine WP.seq ?_
    refine WP.seq ?_
    refine WP.region ?_
    refine OPS.val rfl rfl rfl (Ev.mvI rfl) ?_
    refine OPS.val rfl rfl rfl (Ev.mvS rfl) ?_
    refine OPS.val rfl rfl rfl (Ev.len (el_run rfl) rfl) ?_
    refine OPS.val rfl rfl rfl (Ev.geq rfl rfl) ?_
    refine OPS.nil ?_
    refine WP.cond rfl (fun hc4 => ?_) (fun hc4 => ?_)
    · refine WP.seq ?_
      refine WP.region ?_
      refine OPS.val rfl rfl rfl (Ev.asI rfl) ?_
      refine OPS.nil ?_
      refine WP.ret ⟨_, rfl, ?_⟩
      have h : ¬ j < b.length := by simpa using hc4
      exact ⟨by rw [cmpLs_drop (j := j) (by omega) (by omega) hall, List.drop_eq_getElem_cons hlt, List.drop_eq_nil_of_le (show b.length ≤ j by omega)]; rfl, H.below⟩
    have hlt2 : j < b.length := by simpa using hc4
    obtain ⟨b2, o2, rfl, hy⟩ := hb j hlt2
    refine WP.skip ?_
    refine WP.seq ?_
    refine WP.region ?_
    refine OPS.val rfl rfl rfl (Ev.mvS rfl) ?_
    refine OPS.val rfl rfl rfl (Ev.mvI rfl) ?_
    refine OPS.val rfl rfl rfl ((by exact Ev.indexAddr1 (el_run rfl) (size_run rfl) rfl rfl rfl (by omega))) ?_
    refine OPS.val rfl rfl rfl (Ev.load1 (agg_run rfl) rfl (by exact H.ld0 (by assumption))) ?_
    refine OPS.val rfl rfl rfl (Ev.asI rfl) ?_
    refine OPS.nil ?_
    refine WP.seq ?_
    refine WP.region ?_
    refine OPS.val rfl rfl rfl (Ev.mvI rfl) ?_
    refine OPS.val rfl rfl rfl (Ev.mvI rfl) ?_
    refine OPS.call (d := some 26) rfl rfl rfl (EvC.func (fun_run rfl)) (cmpCompare a[j] b[j] _) ?_
    rintro _ w ⟨rfl, hb⟩
    refine ⟨_, rfl, ?_⟩
    replace H := H.toBelow hb; clear hb
    refine OPS.val rfl rfl rfl (Ev.asI rfl) ?_
    refine OPS.nil ?_
    refine WP.seq ?_
    refine WP.region ?_
    refine OPS.val rfl rfl rfl (Ev.mvI rfl) ?_
    refine OPS.val rfl rfl rfl (Ev.neq rfl rfl) ?_
    refine OPS.nil ?_
    refine WP.cond rfl (fun hc8 => ?_) (fun hc8 => ?_)
    · refine WP.seq ?_
      refine WP.region ?_
      refine OPS.val rfl rfl rfl (Ev.mvI rfl) ?_
      refine OPS.val rfl rfl rfl (Ev.asI rfl) ?_
      refine OPS.nil ?_
      refine WP.ret ⟨_, rfl, ?_⟩
      have hne : cmpI a[j] b[j] ≠ 0 := by simpa using hc8
      exact ⟨by rw [cmpLs_drop (j := j) (by omega) (by omega) hall, List.drop_eq_getElem_cons hlt, List.drop_eq_getElem_cons hlt2, cmpLs, if_pos hne]; rfl, H.below⟩
    have hne : cmpI a[j] b[j] = 0 := by simpa using hc8
    have heq : a[j] = b[j] := by
      unfold cmpI at hne
      split at hne
      · cases hne
      · split at hne
        · cases hne
        · omega
    refine WP.skip ?_
    refine WP.region ?_
    refine OPS.val rfl rfl rfl (Ev.add rfl rfl (by unfold fits; omega)) ?_
    refine OPS.val rfl rfl rfl (Ev.mvI rfl) ?_
    refine OPS.nil ?_
    exact ⟨(by repeat (first | exact Agree.refl _ _ | exact Agree.mix _ _ _ | refine Agree.upd rfl ?_ | refine Agree.mix2 rfl ?_)), k - 1, by omega, j + 1, by omega, rfl, by omega, (fun i h1 h2 h3 => by
      rcases Nat.lt_or_eq_of_le (Nat.le_of_lt_succ h3) with h | rfl
      · exact hall i h1 h2 h
      · exact heq), H⟩
  have hj : j = a.length := by simp at hc2; omega
  refine WP.exit ?_
  refine XB.hit ?_
  refine WP.seq ?_
  refine WP.seq ?_
  refine WP.region ?_
  refine OPS.val rfl rfl rfl (Ev.mvS rfl) ?_
  refine OPS.val rfl rfl rfl (Ev.len (el_run rfl) rfl) ?_
  refine OPS.val rfl rfl rfl (Ev.mvS rfl) ?_
  refine OPS.val rfl rfl rfl (Ev.len (el_run rfl) rfl) ?_
  refine OPS.val rfl rfl rfl (Ev.lss rfl rfl) ?_
  refine OPS.nil ?_
  refine WP.cond rfl (fun hc11 => ?_) (fun hc11 => ?_)
  · refine WP.seq ?_
    refine WP.region ?_
    refine OPS.val rfl rfl rfl (Ev.asI rfl) ?_
    refine OPS.nil ?_
    refine WP.ret ⟨_, rfl, ?_⟩
    have h : a.length < b.length := by simpa using hc11
    exact ⟨by rw [cmpLs_drop (j := j) (by omega) (by omega) hall, hj, List.drop_length, List.drop_eq_getElem_cons h]; rfl, H.below⟩
  refine WP.skip ?_
  refine WP.seq ?_
  refine WP.region ?_
  refine OPS.val rfl rfl rfl (Ev.asI rfl) ?_
  refine OPS.nil ?_
  refine WP.ret ⟨_, rfl, ?_⟩
  have h : ¬ a.length < b.length := by simpa using hc11
  exact ⟨by rw [cmpLs_drop (j := j) (by omega) (by omega) hall, hj, List.drop_length, List.drop_eq_nil_of_le (show b.length ≤ a.length by omega)]; rfl, H.below⟩
end Go.Proofs.Ytfddebpeiilohaa

/-
  Walks: a copy of a list, how much is moved, the better one.
-/
set_option linter.all false
namespace Go.Proofs.Ytfddebpeiilohaa
open Go Go.W Go.RowKit

theorem onesCellsAt {w : World} {b : Nat} : ∀ (l : List Int) (o : Nat), IntsAt w (some ⟨b, o, none⟩) l → cellsAt w b o (l.map I)
  | [], _, _ => trivial
  | x :: l, o, h => by
    obtain ⟨b0, o0, e, h1⟩ := h 0 (by simp)
    cases e
    refine ⟨by simpa using h1, onesCellsAt l (o + 1) fun k hk => ?_⟩
    obtain ⟨b1, o1, e1, h2⟩ := h (k + 1) (by simpa using hk)
    cases e1
    exact ⟨_, _, rfl, by rw [show o + 1 + k = o + (k + 1) by omega]; simpa using h2⟩
theorem intsFrom {w : World} {A : Option Addr} {l : List Int} (h : IntsAt w A l) : l.length = 0 ∨ ∃ b o, A = some ⟨b, o, none⟩ ∧ cellsAt w b o (l.map I) := by
  rcases Nat.eq_zero_or_pos l.length with h0 | h0
  · exact .inl h0
  · obtain ⟨b, o, rfl, _⟩ := h 0 h0
    exact .inr ⟨b, o, rfl, onesCellsAt l o h⟩
theorem intsOne (l : List Int) : ((l.map I).all (·.oneCell')) = true := by rw [List.all_eq_true]; intro v hv; obtain ⟨x, _, rfl⟩ := List.mem_map.1 hv; rfl
theorem slClone (A : Option Addr) (l : List Int) (cap : Nat) (w0 : World) (hz : IntsAt w0 A l) (hl : l.length ≤ 1000) (hA : A = none → cap = 0) :
    Calls Try.prog 42 #[.slice A l.length cap] w0 fun e w' => ∃ (A' : Option Addr) (c : Nat) (Lo : List Blk), e = .returned (.slice A' l.length c) ∧ OwnS A' c l.length (l.map I) 3 1 Lo ∧ SH w0 [] w' Lo := by
  have H := SH.refl w0
  have hn : A = none → l = [] := fun h => by
    cases l with
    | nil => rfl
    | cons x l => obtain ⟨b, o, e, _⟩ := hz 0 (by simp); rw [h] at e; cases e
  refine Calls.ofWP Try.func42 rfl Try.results42 Try.ntmps42 rfl ?_
  refine WP.seq ?_
  refine WP.region ?_
  refine OPS.val rfl rfl rfl (Ev.asS rfl) ?_
  refine OPS.nil ?_
  refine WP.seq ?_
  refine WP.seq ?_
  refine WP.region ?_
  refine OPS.val rfl rfl rfl (Ev.mvS rfl) ?_
  refine OPS.val rfl rfl rfl (Ev.eqlSn Try.runUnderlying29 rfl rfl) ?_
  refine OPS.nil ?_
  refine WP.cond rfl (fun hc1 => ?_) (fun hc1 => ?_)
  · refine WP.seq ?_
    refine WP.region ?_
    refine OPS.val rfl rfl rfl (Ev.asS rfl) ?_
    refine OPS.nil ?_
    refine WP.ret ⟨_, rfl, ?_⟩
    have h : A = none := by simpa using hc1
    obtain rfl := hn h
    obtain rfl := hA h
    exact ⟨none, 0, [], rfl, OwnS.nil, H⟩
  refine WP.skip ?_
  refine WP.seq ?_
  refine WP.region ?_
  refine OPS.buildSlice rfl rfl rfl rfl (bsl_29_0_ (e := fun _ => .int .i64 0)) H ?_
  clear H; intro g5 w H
  refine OPS.val rfl rfl rfl (Ev.mvS rfl) ?_
  refine OPS.appendE (m := l.length) (news := l.map I) (R := []) rfl rfl rfl rfl rfl (sl_run rfl) rfl rfl OwnS.mt (by simp) (intsFrom (hz.sh H)) (intsOne l) (by omega) (by unfold maxLen; omega) H (List.Perm.refl _) ?_
  clear H; intro A' c Lo w hO H
  refine OPS.val rfl rfl rfl (Ev.asS rfl) ?_
  refine OPS.nil ?_
  refine WP.ret ⟨_, rfl, ?_⟩
  rw [Nat.zero_add] at hO
  exact ⟨A', c, Lo, by rw [Nat.zero_add]; rfl, by simpa using hO, by simpa using H⟩
def mvL (ns : List Need) (rn : List Int) : Int := (rn.map fun i => absI (needAt ns i).move).sum
theorem mvL_snoc (ns : List Need) (rn : List Int) (i : Int) : mvL ns (rn ++ [i]) = mvL ns rn + absI (needAt ns i).move := by unfold mvL; rw [List.map_append, List.sum_append]; simp
theorem mvL_bd {ns : List Need} (hm : ∀ x ∈ ns, -32 ≤ x.move ∧ x.move ≤ 32) : ∀ (rn : List Int), 0 ≤ mvL ns rn ∧ mvL ns rn ≤ 32 * rn.length
  | [] => by simp [mvL]
  | i :: rn => by
    have ih := mvL_bd hm rn
    have h1 : -32 ≤ (needAt ns i).move ∧ (needAt ns i).move ≤ 32 := by
      unfold needAt
      by_cases h : i.toNat < ns.length
      · have := hm ns[i.toNat] (List.getElem_mem h)
        rw [List.getD_eq_getElem?_getD, List.getElem?_eq_getElem h]; exact this
      · rw [List.getD_eq_getElem?_getD, List.getElem?_eq_none (by omega)]; exact ⟨by decide, by decide⟩
    have h2 : mvL ns (i :: rn) = absI (needAt ns i).move + mvL ns rn := by unfold mvL; simp
    rw [h2]
    have h3 : 0 ≤ absI (needAt ns i).move ∧ absI (needAt ns i).move ≤ 32 := by unfold absI; omega
    simp only [List.length_cons]
    omega
theorem needAt_eq {ns : List Need} {i : Nat} (h : i < ns.length) : needAt ns (i : Int) = ns[i] := by unfold needAt; simp [h]
set_option maxHeartbeats 1000000 in
theorem routeMoved (n hd : Int) (A B C R : Option Addr) (l : List Edg) (ts : List Truck) (ns : List Need) (rn : List Int) (ca cb cc cr : Nat) (w0 : World) (hn : RowsAt 2 needCells w0 C ns) (hm : ∀ x ∈ ns, -32 ≤ x.move ∧ x.move ≤ 32) (hr : IntsAt w0 R rn) (hrl : rn.length ≤ 1000) (hin : ∀ i ∈ rn, 0 ≤ i ∧ i < ns.length) :
    Calls Try.prog 30 #[.agg #[I n, .slice A l.length ca, .slice B ts.length cb, .slice C ns.length cc, I hd], .slice R rn.length cr] w0 fun e w' => e = .returned (I (mvL ns rn)) ∧ Below w0.heap.size w0 w' := by
  have H := SH.refl w0
  refine Calls.ofWP Try.func30 rfl Try.results30 Try.ntmps30 rfl ?_
  refine WP.seq ?_
  refine WP.region ?_
  refine OPS.box rfl rfl rfl rfl (cA rfl) H ?_
  clear H; intro g2 w H
  refine OPS.val rfl rfl rfl (Ev.asI rfl) ?_
  refine OPS.nil ?_
  refine WP.seq ?_
  refine WP.region ?_
  refine OPS.val rfl rfl rfl (Ev.asI rfl) ?_
  refine OPS.nil ?_
  refine WP.seq ?_
  refine WP.seq ?_
  refine WP.region ?_
  refine OPS.val rfl rfl rfl (Ev.mvS rfl) ?_
  refine OPS.val rfl rfl rfl (Ev.len (el_run rfl) rfl) ?_
  refine OPS.val rfl rfl rfl (Ev.mvI rfl) ?_
  refine OPS.nil ?_
  refine WP.block ?_
  refine WP.loop [5, 7, 10, 11, 12, 13, 14, 15, 16, 17, 18, 19, 20, 21, 22, 23, 24, 25, 26, 27, 28, 29, 30] (fun k e w' => ∃ (j : Nat), j + k = rn.length ∧ e 10 = I j ∧ e 5 = I (mvL ns (rn.take j)) ∧ SH w0 [] w' [⟨g2, 28, [I n, .slice A l.length ca, .slice B ts.length cb, .slice C ns.length cc, I hd]⟩]) (rn.length) (⟨0, by omega, rfl, rfl, H⟩) ?_
  clear H
  rintro k u w ⟨j, hk, h10, h5, H⟩
  refine WP.know (t := 10) h10 (WP.know (t := 5) h5 ?_)
  refine WP.seq ?_
  refine WP.region ?_
  refine OPS.val rfl rfl rfl (Ev.lss rfl rfl) ?_
  refine OPS.nil ?_
  refine WP.seq ?_
  refine WP.cond rfl (fun hc3 => ?_) (fun hc3 => ?_)
  · have hlt : j < rn.length := by simpa using hc3
    obtain ⟨br, orr, rfl, hx⟩ := hr j hlt
    have hir := hin rn[j] (List.getElem_mem hlt)
    obtain ⟨i, hi⟩ := Int.eq_ofNat_of_zero_le hir.1
    rw [hi] at hx
    have hil : i < ns.length := by omega
    obtain ⟨bn, on, rfl, hy⟩ := hn i hil
    have hmv := hm ns[i] (List.getElem_mem hil)
    have hbd := mvL_bd hm (rn.take j)
    have htl : (rn.take j).length = j := by rw [List.length_take]; omega
    have hsn := mvL_snoc ns (rn.take j) rn[j]
    rw [← List.take_succ_eq_append_getElem hlt, hi, needAt_eq hil] at hsn
    generalize ns[i] = x at *
    refine WP.skip ?_
    refine WP.seq ?_
    refine WP.block ?_
    refine WP.seq ?_
    refine WP.region ?_
    refine OPS.val rfl rfl rfl ((by exact Ev.indexAddr1 (el_run rfl) (size_run rfl) rfl rfl rfl (by omega))) ?_
    refine OPS.val rfl rfl rfl (Ev.load1 (agg_run rfl) rfl (by exact H.ld0 (by assumption))) ?_
    refine OPS.val rfl rfl rfl (Ev.asI rfl) ?_
    refine OPS.nil ?_
    refine WP.rstill mixed (by kernel_rfl) H ?_
    clear H; intro w hbw5 H
    obtain ⟨q1, q2, _⟩ := cellsAt_sh H hy
    refine OPS.val rfl rfl rfl (Ev.mvI rfl) ?_
    refine OPS.val rfl rfl rfl (Ev.fieldAddr (fld_run rfl) rfl) ?_
    refine OPS.val rfl rfl rfl (Ev.load1 (agg_run rfl) rfl (by exact H.ldL 0 rfl _ rfl)) ?_
    refine OPS.val rfl rfl rfl (Ev.mvI rfl) ?_
    refine OPS.val rfl rfl rfl ((by exact Ev.indexAddr (el_run rfl) (size_run rfl) rfl rfl rfl (by omega))) ?_
    refine OPS.val rfl rfl rfl (Ev.fieldAddr (fld_run rfl) rfl) ?_
    refine OPS.val rfl rfl rfl (Ev.load1 (agg_run rfl) rfl (by assumption)) ?_
    refine OPS.val rfl rfl rfl (Ev.fieldAddr (fld_run rfl) rfl) ?_
    refine OPS.val rfl rfl rfl (Ev.load1 (agg_run rfl) rfl (by exact H.ldL 0 rfl _ rfl)) ?_
    refine OPS.val rfl rfl rfl (Ev.mvI rfl) ?_
    refine OPS.val rfl rfl rfl ((by exact Ev.indexAddr (el_run rfl) (size_run rfl) rfl rfl rfl (by omega))) ?_
    refine OPS.val rfl rfl rfl (Ev.fieldAddr (fld_run rfl) rfl) ?_
    refine OPS.val rfl rfl rfl (Ev.load1 (agg_run rfl) rfl (by assumption)) ?_
    refine OPS.val rfl rfl rfl (Ev.neg rfl (by unfold fits; omega)) ?_
    refine OPS.val rfl rfl rfl (Ev.max rfl rfl) ?_
    refine OPS.val rfl rfl rfl (Ev.add rfl rfl (by unfold fits; omega)) ?_
    refine OPS.val rfl rfl rfl (Ev.asI rfl) ?_
    refine OPS.nil_s ?_
    refine WP.region ?_
    refine OPS.val rfl rfl rfl (Ev.add rfl rfl (by unfold fits; omega)) ?_
    refine OPS.val rfl rfl rfl (Ev.mvI rfl) ?_
    refine OPS.nil ?_
    exact ⟨(by repeat (first | exact Agree.refl _ _ | exact Agree.mix _ _ _ | refine Agree.upd rfl ?_ | refine Agree.mix2 rfl ?_)), k - 1, by omega, j + 1, by omega, rfl, (by rw [hsn]; rfl), H⟩
  refine WP.exit ?_
  refine XB.hit ?_
  refine WP.seq ?_
  refine WP.region ?_
  refine OPS.val rfl rfl rfl (Ev.mvI rfl) ?_
  refine OPS.val rfl rfl rfl (Ev.asI rfl) ?_
  refine OPS.nil ?_
  refine WP.ret ⟨_, rfl, ?_⟩
  have hj : j = rn.length := by simp at hc3; omega
  rw [hj, List.take_length]
  exact ⟨rfl, H.below⟩
end Go.Proofs.Ytfddebpeiilohaa

/-
  Walks: the better of two routes.
-/
set_option linter.all false
namespace Go.Proofs.Ytfddebpeiilohaa
open Go Go.W Go.RowKit

def fndCells (A : Option Addr) (n c : Nat) (m d : Int) (ok : Bool) : List Value := [.slice A n c, I m, I d, .bool ok]
theorem GB.u {want : Bool} : GB undef want false := ⟨by simp [undef]⟩
/-- nothing found yet -/
theorem betterN (v1 v2 v3 : Value) (A : Option Addr) (n c : Nat) (m d : Int) (x1 : Option Addr) (x2 x3 : Nat) (x4 x5 : Int) (w0 : World) :
    Calls Try.prog 28 #[.agg (fndCells x1 x2 x3 x4 x5 false).toArray, .agg (fndCells A n c m d true).toArray] w0 fun e w' => e = .returned (.agg (fndCells A n c m d true).toArray) ∧ Below w0.heap.size w0 w' := by
  have H := SH.refl w0
  unfold fndCells
  refine Calls.ofWPc Try.func28 rfl Try.results28 Try.ntmps28 rfl ?_
  refine WP.seq ?_
  refine WP.region ?_
  refine OPS.box rfl rfl rfl rfl (cA rfl) H ?_
  clear H; intro g2 w H
  refine OPS.box rfl rfl rfl rfl (cA rfl) H ?_
  clear H; intro g3 w H
  refine OPS.alloc rfl rfl rfl rfl (zero_run rfl) rfl H ?_
  clear H; intro g4 w H
  refine OPS.nil ?_
  refine WP.seq ?_
  refine WP.seq ?_
  refine WP.rquiet mixed (by kernel_rfl) H ?_
  clear H; intro w hbw1 H
  refine OPS.val rfl rfl rfl (Ev.fieldAddr (fld_run rfl) rfl) ?_
  refine OPS.val rfl rfl rfl (Ev.load1 (agg_run rfl) rfl (by exact H.ldL 2 rfl _ rfl)) ?_
  refine OPS.val rfl rfl rfl (Ev.not rfl) ?_
  refine OPS.val rfl rfl rfl (Ev.mvB rfl) ?_
  refine OPS.gnoN rfl rfl (GB.b (b := true) rfl) rfl rfl ?_
  refine OPS.gnoN rfl rfl (GB.b (b := true) rfl) rfl rfl ?_
  refine OPS.gnoN rfl rfl (GB.b (b := true) rfl) rfl rfl ?_
  refine OPS.gnoN rfl rfl GB.u rfl rfl ?_
  refine OPS.gnoN rfl rfl GB.u rfl rfl ?_
  refine OPS.gnoN rfl rfl GB.u rfl rfl ?_
  refine OPS.gnoN rfl rfl GB.u rfl rfl ?_
  refine OPS.gnoN rfl rfl GB.u rfl rfl ?_
  refine OPS.gnoN rfl rfl GB.u rfl rfl ?_
  refine OPS.gnoN rfl rfl GB.u rfl rfl ?_
  refine OPS.gnoN rfl rfl GB.u rfl rfl ?_
  refine OPS.gnoN rfl rfl GB.u rfl rfl ?_
  refine OPS.gnoN rfl rfl GB.u rfl rfl ?_
  refine OPS.gnoN rfl rfl GB.u rfl rfl ?_
  refine OPS.gnoN rfl rfl GB.u rfl rfl ?_
  refine OPS.gnoN rfl rfl GB.u rfl rfl ?_
  refine OPS.gnoN rfl rfl GB.u rfl rfl ?_
  refine OPS.gnoN rfl rfl GB.u rfl rfl ?_
  refine OPS.gnoN rfl rfl GB.u rfl rfl ?_
  refine OPS.gnoN rfl rfl GB.u rfl rfl ?_
  refine OPS.gnoN rfl rfl GB.u rfl rfl ?_
  refine OPS.gnoN rfl rfl (GB.b (b := true) rfl) rfl rfl ?_
  refine OPS.val rfl rfl rfl (Ev.pick (b := true) rfl) ?_
  refine OPS.nilq H ?_
  clear H; intro w hbx1 H
  refine WP.cond rfl (fun hc1 => ?_) (fun hc1 => ?_)
  · refine WP.seq ?_
    refine WP.region ?_
    refine OPS.val rfl rfl rfl ((by exact Ev.loadO 1 H rfl (agg_run rfl) (size_run rfl) (by rfl) rfl)) ?_
    refine OPS.store 0 _ rfl rfl rfl (size_run rfl) rfl (cA rfl) rfl rfl H rfl (by simp) ?_
    clear H; intro w H; try simp only [List.set_cons_zero, List.set_cons_succ, putL, Nat.zero_add] at H
    refine OPS.nil ?_
    refine WP.ret ⟨[_], ⟨(by exact resCellA 0 H rfl (agg_run rfl) (size_run rfl) (by rfl) rfl), trivial⟩, ?_⟩
    exact ⟨rfl, H.below⟩
  refine WP.skip ?_
  refine WP.seq ?_
  refine WP.region ?_
  refine OPS.val rfl rfl rfl ((by exact Ev.loadO 2 H rfl (agg_run rfl) (size_run rfl) (by rfl) rfl)) ?_
  refine OPS.store 0 _ rfl rfl rfl (size_run rfl) rfl (cA rfl) rfl rfl H rfl (by simp) ?_
  clear H; intro w H; try simp only [List.set_cons_zero, List.set_cons_succ, putL, Nat.zero_add] at H
  refine OPS.nil ?_
  refine WP.ret ⟨[_], ⟨(by exact resCellA 0 H rfl (agg_run rfl) (size_run rfl) (by rfl) rfl), trivial⟩, ?_⟩
  cases hc1
set_option maxHeartbeats 1000000 in
theorem betterY (A : Option Addr) (a : List Int) (ca : Nat) (ma da : Int) (B : Option Addr) (b : List Int) (cb : Nat) (mb db : Int) (w0 : World) (ha : IntsAt w0 A a) (hb : IntsAt w0 B b) (hal : a.length ≤ 1000) (hbl : b.length ≤ 1000) :
    Calls Try.prog 28 #[.agg (fndCells A a.length ca ma da true).toArray, .agg (fndCells B b.length cb mb db true).toArray] w0 fun e w' => e = .returned (if orI [cmpI ma mb, cmpI db da, cmpLs b a] < 0 then .agg (fndCells B b.length cb mb db true).toArray else .agg (fndCells A a.length ca ma da true).toArray) ∧ Below w0.heap.size w0 w' := by
  have H := SH.refl w0
  unfold fndCells
  refine Calls.ofWPc Try.func28 rfl Try.results28 Try.ntmps28 rfl ?_
  refine WP.seq ?_
  refine WP.region ?_
  refine OPS.box rfl rfl rfl rfl (cA rfl) H ?_
  clear H; intro g2 w H
  refine OPS.box rfl rfl rfl rfl (cA rfl) H ?_
  clear H; intro g3 w H
  refine OPS.alloc rfl rfl rfl rfl (zero_run rfl) rfl H ?_
  clear H; intro g4 w H
  refine OPS.nil ?_
  refine WP.seq ?_
  refine WP.seq ?_
  refine WP.rheldC [5, 6, 7, 8, 9, 10, 11, 12, 13, 14, 15, 16, 17, 18, 19, 20, 21, 22, 23, 24, 25, 26, 27, 28, 29, 30, 31] (fun u w' => u 31 = .bool (decide (orI [cmpI ma mb, cmpI db da, cmpLs b a] < 0)) ∧ SH w0 [] w' [⟨g4, 49, [.slice none 0 0, I 0, I 0, .bool false]⟩, ⟨g3, 49, [.slice B b.length cb, I mb, I db, .bool true]⟩, ⟨g2, 49, [.slice A a.length ca, I ma, I da, .bool true]⟩]) mixed H ?_ ?_
  · clear H; intro w hbw1 H
    refine OPH.take 0 rfl rfl rfl rfl (by kernel_rfl) (by kernel_rfl) (by kernel_rfl) rfl (by exact H) (fun w H => Ev.fieldAddr (fld_run rfl) rfl) ?_
    refine OPH.take 1 rfl rfl rfl rfl (by kernel_rfl) (by kernel_rfl) (by kernel_rfl) rfl (by exact H) (fun w H => Ev.load1 (agg_run rfl) rfl (by exact H.ldL 2 rfl _ rfl)) ?_
    refine OPH.take 2 rfl rfl rfl rfl (by kernel_rfl) (by kernel_rfl) (by kernel_rfl) rfl (by exact H) (fun w H => Ev.not rfl) ?_
    refine OPH.take 3 rfl rfl rfl rfl (by kernel_rfl) (by kernel_rfl) (by kernel_rfl) rfl (by exact H) (fun w H => Ev.mvB rfl) ?_
    refine OPH.takeY 4 rfl rfl rfl rfl rfl rfl (by kernel_rfl) (by kernel_rfl) (by kernel_rfl) rfl (by exact H) (fun w H => Ev.fieldAddr (fld_run rfl) rfl) ?_
    refine OPH.takeY 5 rfl rfl rfl rfl rfl rfl (by kernel_rfl) (by kernel_rfl) (by kernel_rfl) rfl (by exact H) (fun w H => Ev.load1 (agg_run rfl) rfl (by exact H.ldL 1 rfl _ rfl)) ?_
    refine OPH.takeY 6 rfl rfl rfl rfl rfl rfl (by kernel_rfl) (by kernel_rfl) (by kernel_rfl) rfl (by exact H) (fun w H => Ev.mvB rfl) ?_
    refine OPH.takeY 7 rfl rfl rfl rfl rfl rfl (by kernel_rfl) (by kernel_rfl) (by kernel_rfl) rfl (by exact H) (fun w H => Ev.fieldAddr (fld_run rfl) rfl) ?_
    refine OPH.takeY 8 rfl rfl rfl rfl rfl rfl (by kernel_rfl) (by kernel_rfl) (by kernel_rfl) rfl (by exact H) (fun w H => Ev.load1 (agg_run rfl) rfl (by exact H.ldL 2 rfl _ rfl)) ?_
    refine OPH.takeY 9 rfl rfl rfl rfl rfl rfl (by kernel_rfl) (by kernel_rfl) (by kernel_rfl) rfl (by exact H) (fun w H => Ev.fieldAddr (fld_run rfl) rfl) ?_
    refine OPH.takeY 10 rfl rfl rfl rfl rfl rfl (by kernel_rfl) (by kernel_rfl) (by kernel_rfl) rfl (by exact H) (fun w H => Ev.load1 (agg_run rfl) rfl (by exact H.ldL 1 rfl _ rfl)) ?_
    refine OPH.takeY 12 rfl rfl rfl rfl rfl rfl (by kernel_rfl) (by kernel_rfl) (by kernel_rfl) rfl (by exact H) (fun w H => Ev.fieldAddr (fld_run rfl) rfl) ?_
    refine OPH.takeY 13 rfl rfl rfl rfl rfl rfl (by kernel_rfl) (by kernel_rfl) (by kernel_rfl) rfl (by exact H) (fun w H => Ev.load1 (agg_run rfl) rfl (by exact H.ldL 1 rfl _ rfl)) ?_
    refine OPH.takeY 14 rfl rfl rfl rfl rfl rfl (by kernel_rfl) (by kernel_rfl) (by kernel_rfl) rfl (by exact H) (fun w H => Ev.fieldAddr (fld_run rfl) rfl) ?_
    refine OPH.takeY 15 rfl rfl rfl rfl rfl rfl (by kernel_rfl) (by kernel_rfl) (by kernel_rfl) rfl (by exact H) (fun w H => Ev.load1 (agg_run rfl) rfl (by exact H.ldL 2 rfl _ rfl)) ?_
    refine OPH.takeY 17 rfl rfl rfl rfl rfl rfl (by kernel_rfl) (by kernel_rfl) (by kernel_rfl) rfl (by exact H) (fun w H => Ev.fieldAddr (fld_run rfl) rfl) ?_
    refine OPH.takeY 18 rfl rfl rfl rfl rfl rfl (by kernel_rfl) (by kernel_rfl) (by kernel_rfl) rfl (by exact H) (fun w H => Ev.load1 (agg_run rfl) rfl (by exact H.ldL 1 rfl _ rfl)) ?_
    refine OPH.takeY 19 rfl rfl rfl rfl rfl rfl (by kernel_rfl) (by kernel_rfl) (by kernel_rfl) rfl (by exact H) (fun w H => Ev.fieldAddr (fld_run rfl) rfl) ?_
    refine OPH.takeY 20 rfl rfl rfl rfl rfl rfl (by kernel_rfl) (by kernel_rfl) (by kernel_rfl) rfl (by exact H) (fun w H => Ev.load1 (agg_run rfl) rfl (by exact H.ldL 2 rfl _ rfl)) ?_
    refine OPH.all [11] (by kernel_rfl) (by simp) rfl ?_
    intro i hi; simp only [List.mem_cons, List.not_mem_nil, or_false] at hi
    rcases hi with rfl
    · refine ⟨_, rfl, ?_⟩
      refine OPS.gyes rfl rfl rfl rfl ?_
      refine OPS.call (d := some 16) rfl rfl rfl (EvC.func (fun_run rfl)) (cmpCompare ma mb w) ?_
      rintro _ w ⟨rfl, hb'⟩
      refine ⟨_, rfl, ?_⟩
      replace H := H.toBelow hb'; clear hb'
      refine OPS.nil ?_
      refine ⟨(by exact H), ?_⟩
      refine OPH.all [16] (by kernel_rfl) (by simp) rfl ?_
      intro i hi; simp only [List.mem_cons, List.not_mem_nil, or_false] at hi
      rcases hi with rfl
      · refine ⟨_, rfl, ?_⟩
        refine OPS.gyes rfl rfl rfl rfl ?_
        refine OPS.call (d := some 21) rfl rfl rfl (EvC.func (fun_run rfl)) (cmpCompare db da w) ?_
        rintro _ w ⟨rfl, hb'⟩
        refine ⟨_, rfl, ?_⟩
        replace H := H.toBelow hb'; clear hb'
        refine OPS.nil ?_
        refine ⟨(by exact H), ?_⟩
        refine OPH.all [21] (by kernel_rfl) (by simp) rfl ?_
        intro i hi; simp only [List.mem_cons, List.not_mem_nil, or_false] at hi
        rcases hi with rfl
        · refine ⟨_, rfl, ?_⟩
          refine OPS.gyes rfl rfl rfl rfl ?_
          refine OPS.call (d := some 26) rfl rfl rfl (EvC.func (fun_run rfl)) (slCompare B A b a cb ca w (hb.sh H) (ha.sh H) hbl hal) ?_
          rintro _ w ⟨rfl, hb'⟩
          refine ⟨_, rfl, ?_⟩
          replace H := H.toBelow hb'; clear hb'
          refine OPS.nil ?_
          refine ⟨(by exact H), ?_⟩
          refine OPH.all [22] (by kernel_rfl) (by simp) rfl ?_
          intro i hi; simp only [List.mem_cons, List.not_mem_nil, or_false] at hi
          rcases hi with rfl
          · refine ⟨_, rfl, ?_⟩
            refine OPS.gyes rfl rfl rfl rfl ?_
            refine OPS.buildSlice rfl rfl rfl rfl (bsl_29_3_0_1_2 rfl rfl rfl) H ?_
            clear H; intro g27 w E
            have H := E.drop (List.sublist_cons_self _ _)
            refine OPS.nil ?_
            refine ⟨(by exact H), ?_⟩
            refine OPH.all [23] (by kernel_rfl) (by simp) rfl ?_
            intro i hi; simp only [List.mem_cons, List.not_mem_nil, or_false] at hi
            rcases hi with rfl
            · refine ⟨_, rfl, ?_⟩
              refine OPS.gyes rfl rfl rfl rfl ?_
              refine OPS.call (d := some 28) rfl rfl rfl (EvC.func (fun_run rfl)) (cmpOr (some ⟨g27, 0, none⟩) [cmpI ma mb, cmpI db da, cmpLs b a] 3 w (OnesAt.own (l := [cmpI ma mb, cmpI db da, cmpLs b a]) E 0 rfl (post := []) rfl) (by simp)) ?_
              rintro _ w ⟨rfl, hb'⟩
              refine ⟨_, rfl, ?_⟩
              replace H := H.toBelow hb'; clear hb'
              refine OPS.nil ?_
              refine ⟨(by exact H), ?_⟩
              refine OPH.takeY 24 rfl rfl rfl rfl rfl rfl (by kernel_rfl) (by kernel_rfl) (by kernel_rfl) rfl (by exact H) (fun w H => Ev.lss rfl rfl) ?_
              refine OPH.takeY 25 rfl rfl rfl rfl rfl rfl (by kernel_rfl) (by kernel_rfl) (by kernel_rfl) rfl (by exact H) (fun w H => Ev.pick (b := true) rfl) ?_
              refine OPH.take 26 rfl rfl rfl rfl (by kernel_rfl) (by kernel_rfl) (by kernel_rfl) rfl (by exact H) (fun w H => Ev.pick (b := false) rfl) ?_
              refine OPH.done (by kernel_rfl) ?_
              exact ⟨(by repeat (first | exact Agree.refl _ _ | exact Agree.mix _ _ _ | refine Agree.upd rfl ?_ | refine Agree.mix2 rfl ?_)), rfl, H⟩
  clear H
  rintro u w ⟨h31, H⟩
  refine WP.know (t := 31) h31 ?_
  refine WP.cond rfl (fun hc1 => ?_) (fun hc1 => ?_)
  · refine WP.seq ?_
    refine WP.region ?_
    refine OPS.val rfl rfl rfl ((by exact Ev.loadO 1 H rfl (agg_run rfl) (size_run rfl) (by rfl) rfl)) ?_
    refine OPS.store 0 _ rfl rfl rfl (size_run rfl) rfl (cA rfl) rfl rfl H rfl (by simp) ?_
    clear H; intro w H; try simp only [List.set_cons_zero, List.set_cons_succ, putL, Nat.zero_add] at H
    refine OPS.nil ?_
    refine WP.ret ⟨[_], ⟨(by exact resCellA 0 H rfl (agg_run rfl) (size_run rfl) (by rfl) rfl), trivial⟩, ?_⟩
    have h : orI [cmpI ma mb, cmpI db da, cmpLs b a] < 0 := by simpa using hc1
    exact ⟨by rw [if_pos h]; rfl, H.below⟩
  refine WP.skip ?_
  refine WP.seq ?_
  refine WP.region ?_
  refine OPS.val rfl rfl rfl ((by exact Ev.loadO 2 H rfl (agg_run rfl) (size_run rfl) (by rfl) rfl)) ?_
  refine OPS.store 0 _ rfl rfl rfl (size_run rfl) rfl (cA rfl) rfl rfl H rfl (by simp) ?_
  clear H; intro w H; try simp only [List.set_cons_zero, List.set_cons_succ, putL, Nat.zero_add] at H
  refine OPS.nil ?_
  refine WP.ret ⟨[_], ⟨(by exact resCellA 0 H rfl (agg_run rfl) (size_run rfl) (by rfl) rfl), trivial⟩, ?_⟩
  have h : ¬ orI [cmpI ma mb, cmpI db da, cmpLs b a] < 0 := by simpa using hc1
  exact ⟨by rw [if_neg h]; rfl, H.below⟩
end Go.Proofs.Ytfddebpeiilohaa

/-
  Walks: Reverse of a part of a list; all orders of a list, in order, for whatever visitor.
-/
set_option linter.all false
namespace Go.Proofs.Ytfddebpeiilohaa
open Go Go.W Go.RowKit

theorem revOwn (g : Nat) (pre zs : List Int) (sp : List Value) (cap : Nat) (w0 : World) (hb : w0.heap[g]? = some (.cells ((pre ++ zs).map I ++ sp).toArray 3 (0, 0))) (hlen : zs.length ≤ 1000000) :
    Calls Try.prog 64 #[.slice (some ⟨g, pre.length, none⟩) zs.length cap] w0 fun e w' => e = .returned (.tuple #[]) ∧ SH w0 [g] w' [⟨g, 3, (pre ++ zs.reverse).map I ++ sp⟩] := by
  have hg : g < w0.heap.size := (Array.getElem?_eq_some_iff.1 hb).1
  have hH : Sort.Holds (Value.int .i64) w0 g pre.length zs.toArray := fun j hj => by
    have hj' : j < zs.length := by simpa using hj
    refine ⟨?_, by simp [World.frozen?, hb]⟩
    simp only [World.cell?, hb]
    simp only [Option.isSome_none, Bool.false_eq_true, if_false]
    rw [← Array.getElem?_toList]
    simp [hj', List.getElem?_append]
  refine (Try.slices_Reverse_int g pre.length cap zs w0 hH (by omega)).mono ?_
  rintro e w' ⟨rfl, n, rfl⟩
  have hcells : Sort.putCells (Value.int .i64) pre.length zs.reverse.toArray ((pre ++ zs).map I ++ sp).toArray = ((pre ++ zs.reverse).map I ++ sp).toArray := by
    apply Array.ext_getElem?
    intro k
    simp only [Sort.putCells, Array.getElem?_mapIdx, List.getElem?_toArray, List.map_append, List.append_assoc]
    by_cases h1 : k < pre.length
    · rw [List.getElem?_append_left (l₁ := pre.map I) (by simpa using h1), List.getElem?_append_left (l₁ := pre.map I) (by simpa using h1)]
      simp [h1, show ¬ pre.length ≤ k by omega]
    · rw [List.getElem?_append_right (l₁ := pre.map I) (by simp; omega), List.getElem?_append_right (l₁ := pre.map I) (by simp; omega), List.length_map]
      by_cases h2 : k < pre.length + zs.length
      · have h3 : k - pre.length < zs.length := by omega
        rw [List.getElem?_append_left (l₁ := zs.map I) (by simpa using h3), List.getElem?_append_left (l₁ := zs.reverse.map I) (by simpa using h3)]
        simp [h2, h3, show pre.length ≤ k by omega]
      · rw [List.getElem?_append_right (l₁ := zs.map I) (by simp; omega), List.getElem?_append_right (l₁ := zs.reverse.map I) (by simp; omega), List.length_map, List.length_map, List.length_reverse]
        cases sp[k - pre.length - zs.length]? with
        | none => rfl
        | some v => simp [h2]
  have hh : (Sort.putRow (Value.int .i64) (Sort.ahead w0 n) g pre.length zs.reverse.toArray).heap[g]? = some (.cells ((pre ++ zs.reverse).map I ++ sp).toArray 3 (0, 0)) := by
    rw [← hcells]
    simp [Sort.putRow, Sort.mapBlock, Sort.ahead, Array.getElem?_modify, hb, Sort.onCells]
  refine ⟨rfl, rfl, rfl, rfl, by simp [Sort.putRow, Sort.mapBlock, Sort.ahead], fun k hk hS => ?_, fun b hb => ?_, fun b hb => ?_, by simp⟩
  · have : g ≠ k := fun e => hS (by simp [e])
    simp [Sort.putRow, Sort.mapBlock, Sort.ahead, Array.getElem?_modify, this]
  · obtain rfl : b = ⟨g, 3, (pre ++ zs.reverse).map I ++ sp⟩ := by simpa using hb
    exact hh
  · obtain rfl : b = ⟨g, 3, (pre ++ zs.reverse).map I ++ sp⟩ := by simpa using hb
    exact .inr (by simp)
theorem set_ints (l : List Int) (sp : List Value) (i : Nat) (x : Int) (hi : i < l.length) : putL (l.map I ++ sp) (0 + i) [I x] = (l.set i x).map I ++ sp := by
  simp [putL, List.set_append_left _ _ (show i < (l.map I).length by simpa using hi), List.map_set]
set_option maxHeartbeats 4000000 in
theorem routeOrders {σ : Type} (R : σ → List Blk → Prop) (vis : σ → List Int → σ) (F : Nat) (caps : List Value) (wB : World) (hfun : funT F = true) (l : List Int)
    (hvis : ∀ s Lv w A o c, Below wB.heap.size wB w → R s Lv → SH w (Lv.map (·.g)) w Lv → IntsAt w A o → (A = none → c = 0) → o.length ≤ c → o.Perm l →
      Calls Try.prog F ([Value.slice A o.length c] ++ caps).toArray w fun e w' => ∃ Lv', e = .returned (.tuple #[]) ∧ R (vis s o) Lv' ∧ SH w (Lv.map (·.g)) w' Lv')
    (A : Option Addr) (cap : Nat) (w0 : World) (hz : IntsAt w0 A l) (hl : l.length ≤ 16) (hnd : l.Nodup) (hrg : ∀ x ∈ l, 0 ≤ x ∧ x < 64)
    (s0 : σ) (Lv0 : List Blk) (hR0 : R s0 Lv0) (H0 : SH w0 (Lv0.map (·.g)) w0 Lv0) (hB : Below wB.heap.size wB w0) (hLv : ∀ g ∈ Lv0.map (·.g), wB.heap.size ≤ g) :
    Calls Try.prog 40 #[.slice A l.length cap, .func (.func F) #[] caps.toArray] w0 fun e w' => ∃ (V : List (List Int)) (Lv' : List Blk), e = .returned (.tuple #[]) ∧ (∀ o, o ∈ V ↔ o.Perm l) ∧ R (V.foldl vis s0) Lv' ∧ SH w0 (Lv0.map (·.g)) w' Lv' := by
  obtain ⟨S, hS⟩ : ∃ S, S = Lv0.map (·.g) := ⟨_, rfl⟩
  rw [← hS] at H0 hLv ⊢
  have hbel : ∀ {w : World} {L : List Blk}, SH w0 S w L → Below wB.heap.size wB w := fun {w L} H =>
    ⟨H.os.trans hB.os, H.tape.trans hB.tape, H.output.trans hB.output, Nat.le_trans hB.size H.size, fun k hk => (H.low k (Nat.lt_of_lt_of_le hk hB.size) (fun hm => by have := hLv k hm; omega)).trans (hB.block k hk)⟩
  have H := H0
  have hsl := srt_len l
  have hsp := srt_perm l
  refine Calls.ofWP Try.func40 rfl Try.results40 Try.ntmps40 rfl ?_
  refine WP.scope ?_
  refine WP.seq ?_
  refine WP.region ?_
  refine OPS.val rfl rfl rfl (Ev.mvS rfl) ?_
  refine OPS.call (d := some 7) rfl rfl rfl (EvC.func (fun_run rfl)) (slValues A l.length cap w0) ?_
  rintro _ w ⟨gv, rfl, Hc⟩
  refine ⟨_, rfl, ?_⟩
  have hz1 := hz.sh Hc
  have hg1 := Hc.own ⟨gv, 29, [.slice A l.length cap]⟩ (by simp)
  replace H := SH.call (L1 := Lv0) (Lv := []) (by simpa using H) (by simpa using Hc.drop (List.nil_sublist _))
  clear Hc
  refine OPS.call (d := some 8) rfl rfl rfl (EvC.func (fun_run rfl)) (slSorted gv A l cap w hz1 (by omega) (by simpa using hg1)) ?_
  rintro _ w ⟨A', c, Lo, rfl, hO, Hc⟩
  refine ⟨_, rfl, ?_⟩
  replace H := SH.call (L1 := Lv0) (Lv := []) (by simpa using H) Hc
  clear Hc hz1 hg1
  have hA : A' = none → c = 0 := fun h => by
    rcases hO.form with ⟨_, _, h2, _⟩ | ⟨g, sp, h2, _⟩
    · exact h2
    · rw [h] at h2; cases h2
  rw [← hsl] at hO
  have hmet := Met.start hsp (by
    have h1 := srt_sorted l
    have h2 := List.nodup_iff_pairwise_ne.1 (hsp.nodup_iff.2 hnd)
    exact (h1.and h2).imp fun h => by omega)
  rw [← hsl]
  refine OPS.val rfl rfl rfl (Ev.asS rfl) ?_
  refine OPS.nil ?_
  refine WP.seq ?_
  refine WP.label ?_
  refine WP.block ?_
  refine WP.loop [4, 5, 9, 10, 11, 12, 13, 14, 15, 16, 17, 18, 19, 20, 21, 22, 23, 24, 25, 26, 27, 28, 29, 30, 31, 32, 33, 34, 35, 36, 37, 38, 39, 40, 41, 42, 43, 44, 45, 46, 47, 48, 49, 50, 51, 52, 53, 54] (fun k e w' => ∃ (cur : List Int) (V : List (List Int)) (Lv Lo : List Blk), k = 64 ^ cur.length - encL cur ∧ cur.length = (srt l).length ∧ Met l cur V ∧ OwnS A' c cur.length (cur.map I) 3 1 Lo ∧ R (V.foldl vis s0) Lv ∧ SH w0 S w' (Lv ++ Lo)) ((64 ^ (srt l).length - encL (srt l))) (⟨srt l, [], Lv0, Lo, rfl, rfl, hmet, hO, hR0, H⟩) ?_
  clear H hO hmet
  rintro k u w ⟨cur, V, Lv, Lo, hk, hcl, hmet, hO, hR, H⟩
  rw [← hcl]
  have hpc := hmet.perm
  have hndc : cur.Nodup := hpc.nodup_iff.2 hnd
  have hrgc : ∀ x ∈ cur, 0 ≤ x ∧ x < 64 := fun x hx => hrg x (hpc.mem_iff.1 hx)
  have hcl16 : cur.length ≤ 16 := by rw [hcl, hsl]; exact hl
  have hlec : cur.length ≤ c := by
    rcases hO.form with ⟨_, h, _⟩ | ⟨_, _, _, _, h, _⟩
    · omega
    · exact h
  refine WP.block ?_
  refine WP.seq ?_
  refine WP.region ?_
  refine OPS.val rfl rfl rfl (Ev.mvF rfl) ?_
  refine OPS.val rfl rfl rfl (Ev.mvS rfl) ?_
  refine OPS.call (d := some 11) rfl rfl rfl (EvC.clos rfl (fun_run (by assumption))) (hvis (V.foldl vis s0) Lv w A' cur c (hbel H) hR (H.restart (List.sublist_append_left _ _)) (hO.ones H).1 hA hlec hpc) ?_
  rintro _ w ⟨Lv', rfl, hR', Hc⟩
  refine ⟨_, rfl, ?_⟩
  replace H := (SH.call (L1 := Lo) (Lv := Lv) (H.perm List.perm_append_comm) Hc).perm List.perm_append_comm
  clear Hc hR
  have hR2 : R ((V ++ [cur]).foldl vis s0) Lv' := by rw [List.foldl_append]; exact hR'
  refine OPS.nil ?_
  refine WP.seq ?_
  refine WP.seq ?_
  refine WP.region ?_
  refine OPS.val rfl rfl rfl (Ev.mvS rfl) ?_
  refine OPS.val rfl rfl rfl (Ev.len (el_run rfl) rfl) ?_
  refine OPS.val rfl rfl rfl (Ev.sub rfl rfl (by unfold fits; omega)) ?_
  refine OPS.val rfl rfl rfl (Ev.asI rfl) ?_
  refine OPS.nil ?_
  refine WP.block ?_
  refine WP.loop [4, 5, 15, 16, 17, 18, 19, 20, 21, 22, 23, 24, 25, 26, 27, 28, 29, 30, 31, 32, 33, 34, 35, 36, 37, 38, 39, 40, 41, 42, 43, 44, 45, 46, 47, 48, 49, 50, 51, 52, 53, 54] (fun k e w' => ∃ (i : Int), e 4 = I i ∧ k = (i + 2).toNat ∧ -2 ≤ i ∧ i ≤ (cur.length : Int) - 2 ∧ Fall cur (i + 1).toNat ∧ SH w0 S w' (Lv' ++ Lo)) (cur.length) (⟨(cur.length : Int) - 2, rfl, by omega, by omega, by omega, fun a b h1 h2 h3 => by omega, H⟩) ?_
  clear H
  rintro k3 u3 w ⟨i, h4, hk3, hi2, hil, hfall, H⟩
  refine WP.know (t := 4) h4 ?_
  refine WP.seq ?_
  refine WP.seq ?_
  refine WP.region ?_
  refine OPS.val rfl rfl rfl (Ev.mvI rfl) ?_
  refine OPS.val rfl rfl rfl (Ev.geq rfl rfl) ?_
  refine OPS.nil ?_
  refine WP.cond rfl (fun hc3 => ?_) (fun hc3 => ?_)
  · have hi0 : 0 ≤ i := by simpa using hc3
    obtain ⟨i, rfl⟩ := Int.eq_ofNat_of_zero_le hi0
    have hfall' : Fall cur (i + 1) := by simpa using hfall
    refine WP.skip ?_
    refine WP.seq ?_
    refine WP.block ?_
    refine WP.seq ?_
    refine WP.region ?_
    refine OPS.val rfl rfl rfl (Ev.mvS rfl) ?_
    refine OPS.val rfl rfl rfl (Ev.len (el_run rfl) rfl) ?_
    refine OPS.val rfl rfl rfl (Ev.sub rfl rfl (by unfold fits; omega)) ?_
    refine OPS.val rfl rfl rfl (Ev.asI rfl) ?_
    refine OPS.nil ?_
    refine WP.block ?_
    refine WP.loop [5, 22, 23, 24, 25, 26, 27, 28, 29, 30, 31, 32, 33, 34, 35, 36, 37, 38, 39, 40, 41, 42, 43, 44, 45, 46, 47, 48, 49, 50, 51, 52, 53, 54] (fun k e w' => ∃ (j : Nat), e 5 = I j ∧ k = j ∧ i ≤ j ∧ j < cur.length ∧ (∀ q, j < q → q < cur.length → ¬ cur.getD i 0 < cur.getD q 0) ∧ SH w0 S w' (Lv' ++ Lo)) ((cur.length - 1)) (⟨cur.length - 1, by show I ((cur.length : Int) - 1) = _; congr 1; omega, rfl, by omega, by omega, fun q h1 h2 => by omega, H⟩) ?_
    clear H
    rintro k6 u6 w ⟨j, h5, hk6, hij, hjl, hno, H⟩
    refine WP.know (t := 5) h5 ?_
    refine WP.seq ?_
    refine WP.seq ?_
    refine WP.region ?_
    refine OPS.val rfl rfl rfl (Ev.mvI rfl) ?_
    refine OPS.val rfl rfl rfl (Ev.mvI rfl) ?_
    refine OPS.val rfl rfl rfl (Ev.gtr rfl rfl) ?_
    refine OPS.nil ?_
    refine WP.cond rfl (fun hc6 => ?_) (fun hc6 => ?_)
    · have hlt : i < j := by simpa using hc6
      obtain ⟨g, sp, hAe, hLo, o1, o2, o3⟩ : ∃ g sp, A' = some ⟨g, 0, none⟩ ∧ Lo = [⟨g, 3, cur.map I ++ sp⟩] ∧ cur.length ≤ c ∧ c ≤ maxLen ∧ (cur.map I ++ sp).length = c * 1 := by
        rcases hO.form with ⟨_, h, _⟩ | h
        · omega
        · exact h
      have hgi := getDi (show i < cur.length by omega)
      have hgj := getDi (show j < cur.length by omega)
      have hcell : ∀ (w : World), SH w0 S w (Lv' ++ Lo) → ∀ q (h : q < cur.length), w.cell? ⟨g, 0 + q, none⟩ = some (I (cur.getD q 0)) := fun w H q h => by
        obtain ⟨b, o, e, hc⟩ := (hO.ones H).1 q h
        rw [hAe] at e; cases e
        rw [getDi h]; exact hc
      subst hAe
      refine WP.skip ?_
      refine WP.seq ?_
      refine WP.block ?_
      refine WP.seq ?_
      refine WP.rstill mixed (by kernel_rfl) H ?_
      clear H; intro w hbw8 H
      have hx := hcell w H i (by omega)
      have hy := hcell w H j (by omega)
      refine OPS.val rfl rfl rfl (Ev.mvS rfl) ?_
      refine OPS.val rfl rfl rfl (Ev.mvI rfl) ?_
      refine OPS.val rfl rfl rfl ((by exact Ev.indexAddr1 (el_run rfl) (size_run rfl) rfl rfl rfl (by omega))) ?_
      refine OPS.val rfl rfl rfl (Ev.load1 (agg_run rfl) rfl (by assumption)) ?_
      refine OPS.val rfl rfl rfl (Ev.mvS rfl) ?_
      refine OPS.val rfl rfl rfl (Ev.mvI rfl) ?_
      refine OPS.val rfl rfl rfl ((by exact Ev.indexAddr1 (el_run rfl) (size_run rfl) rfl rfl rfl (by omega))) ?_
      refine OPS.val rfl rfl rfl (Ev.load1 (agg_run rfl) rfl (by assumption)) ?_
      refine OPS.val rfl rfl rfl (Ev.lss rfl rfl) ?_
      refine OPS.nil_s ?_
      refine WP.cond rfl (fun hc8 => ?_) (fun hc8 => ?_)
      · have hlx : cur.getD i 0 < cur.getD j 0 := by simpa using hc8
        subst hLo
        have hcl2 : ∀ (w : World), SH w0 S w (⟨g, 3, cur.map I ++ sp⟩ :: Lv') → ∀ q (h : q < cur.length), w.cell? ⟨g, 0 + q, none⟩ = some (I (cur.getD q 0)) := fun w H q h => by
          obtain ⟨b, o, e, hc⟩ := OnesAt.own (enc := I) (l := cur) (post := sp) H 0 rfl rfl q h
          cases e
          rw [getDi h]; exact hc
        have Hf := H.perm (List.perm_append_singleton _ _)
        replace H := H.drop (List.nil_sublist _)
        have hl1 : ((swp cur i j).take (i + 1)).length = 0 + (i + 1) * 1 := by rw [List.length_take, swp_len]; omega
        have hl2 : ((swp cur i j).drop (i + 1)).length = cur.length - (i + 1) := by rw [List.length_drop, swp_len]
        have hrev := fun w hb => revOwn g ((swp cur i j).take (i + 1)) ((swp cur i j).drop (i + 1)) sp (c - (i + 1)) w hb (by rw [hl2]; omega)
        simp only [hl1, hl2, List.take_append_drop] at hrev
        refine WP.seq ?_
        refine WP.rheldC [36, 37, 38, 39, 40, 41, 42, 43, 44, 45, 46, 47, 48, 49] (fun _ w' => SH w0 S w' (⟨g, 3, (swp cur i j).map I ++ sp⟩ :: Lv')) mixed H ?_ ?_
        · clear H; intro w hbw9 H
          refine OPH.take 0 rfl rfl rfl rfl (by kernel_rfl) (by kernel_rfl) (by kernel_rfl) rfl (by exact H) (fun w H => Ev.mvS rfl) ?_
          refine OPH.take 1 rfl rfl rfl rfl (by kernel_rfl) (by kernel_rfl) (by kernel_rfl) rfl (by exact H) (fun w H => Ev.mvI rfl) ?_
          refine OPH.take 2 rfl rfl rfl rfl (by kernel_rfl) (by kernel_rfl) (by kernel_rfl) rfl (by exact H) (fun w H => Ev.mvS rfl) ?_
          refine OPH.take 3 rfl rfl rfl rfl (by kernel_rfl) (by kernel_rfl) (by kernel_rfl) rfl (by exact H) (fun w H => Ev.mvI rfl) ?_
          refine OPH.take 4 rfl rfl rfl rfl (by kernel_rfl) (by kernel_rfl) (by kernel_rfl) rfl (by exact H) (fun w H => Ev.mvS rfl) ?_
          refine OPH.take 5 rfl rfl rfl rfl (by kernel_rfl) (by kernel_rfl) (by kernel_rfl) rfl (by exact H) (fun w H => Ev.mvI rfl) ?_
          refine OPH.take 6 rfl rfl rfl rfl (by kernel_rfl) (by kernel_rfl) (by kernel_rfl) rfl (by exact H) (fun w H => (by exact Ev.indexAddr1 (el_run rfl) (size_run rfl) rfl rfl rfl (by omega))) ?_
          refine OPH.take 8 rfl rfl rfl rfl (by kernel_rfl) (by kernel_rfl) (by kernel_rfl) rfl (by exact H) (fun w H => Ev.mvS rfl) ?_
          refine OPH.take 9 rfl rfl rfl rfl (by kernel_rfl) (by kernel_rfl) (by kernel_rfl) rfl (by exact H) (fun w H => Ev.mvI rfl) ?_
          refine OPH.take 10 rfl rfl rfl rfl (by kernel_rfl) (by kernel_rfl) (by kernel_rfl) rfl (by exact H) (fun w H => (by exact Ev.indexAddr1 (el_run rfl) (size_run rfl) rfl rfl rfl (by omega))) ?_
          refine OPH.all [7, 11] (by kernel_rfl) (by simp) rfl ?_
          intro i hi; simp only [List.mem_cons, List.not_mem_nil, or_false] at hi
          rcases hi with rfl | rfl
          · refine ⟨_, rfl, ?_⟩
            try replace Hf := Hf.toBelow hbw9
            have hy := hcl2 w Hf j (by omega)
            refine OPS.val rfl rfl rfl (Ev.load1 (agg_run rfl) rfl hy) ?_
            refine OPS.nil ?_
            refine ⟨(by exact H), ?_⟩
            refine OPH.all [11] (by kernel_rfl) (by simp) rfl ?_
            intro i hi; simp only [List.mem_cons, List.not_mem_nil, or_false] at hi
            rcases hi with rfl
            · refine ⟨_, rfl, ?_⟩
              try replace Hf := Hf.toBelow hbw9
              have hx := hcl2 w Hf i (by omega)
              refine OPS.val rfl rfl rfl (Ev.load1 (agg_run rfl) rfl hx) ?_
              refine OPS.nil ?_
              refine ⟨(by exact H), ?_⟩
              refine OPH.take 12 rfl rfl rfl rfl (by kernel_rfl) (by kernel_rfl) (by kernel_rfl) rfl (by exact H) (fun w H => (by exact Ev.indexAddr1 (el_run rfl) (size_run rfl) rfl rfl rfl (by omega))) ?_
              refine OPH.all [13] (by kernel_rfl) (by simp) rfl ?_
              intro i hi; simp only [List.mem_cons, List.not_mem_nil, or_false] at hi
              rcases hi with rfl
              · refine ⟨_, rfl, ?_⟩
                refine OPS.store 0 _ rfl rfl rfl (size_run rfl) rfl (cI rfl) rfl rfl Hf rfl (by simp; omega) ?_
                clear H Hf; intro w Hf
                replace Hf : SH w0 S w (⟨g, 3, putL (cur.map I ++ sp) (0 + i) [I (cur.getD j 0)]⟩ :: Lv') := Hf
                rw [set_ints _ _ _ _ (by omega)] at Hf
                have H := Hf.drop (List.nil_sublist _)
                refine OPS.nil ?_
                refine ⟨(by exact H), ?_⟩
                refine OPH.take 14 rfl rfl rfl rfl (by kernel_rfl) (by kernel_rfl) (by kernel_rfl) rfl (by exact H) (fun w H => (by exact Ev.indexAddr1 (el_run rfl) (size_run rfl) rfl rfl rfl (by omega))) ?_
                refine OPH.all [15] (by kernel_rfl) (by simp) rfl ?_
                intro i hi; simp only [List.mem_cons, List.not_mem_nil, or_false] at hi
                rcases hi with rfl
                · refine ⟨_, rfl, ?_⟩
                  refine OPS.store 0 _ rfl rfl rfl (size_run rfl) rfl (cI rfl) rfl rfl Hf rfl (by simp; omega) ?_
                  clear H Hf; intro w Hf
                  replace Hf : SH w0 S w (⟨g, 3, putL ((cur.set i (cur.getD j 0)).map I ++ sp) (0 + j) [I (cur.getD i 0)]⟩ :: Lv') := Hf
                  rw [set_ints _ _ _ _ (by rw [List.length_set]; omega)] at Hf
                  have H := Hf.drop (List.nil_sublist _)
                  refine OPS.nil ?_
                  refine ⟨(by exact H), ?_⟩
                  refine OPH.done (by kernel_rfl) ?_
                  exact ⟨(by repeat (first | exact Agree.refl _ _ | exact Agree.mix _ _ _ | refine Agree.upd rfl ?_ | refine Agree.mix2 rfl ?_)), Hf⟩
          · refine ⟨_, rfl, ?_⟩
            try replace Hf := Hf.toBelow hbw9
            have hx := hcl2 w Hf i (by omega)
            refine OPS.val rfl rfl rfl (Ev.load1 (agg_run rfl) rfl hx) ?_
            refine OPS.nil ?_
            refine ⟨(by exact H), ?_⟩
            refine OPH.all [7] (by kernel_rfl) (by simp) rfl ?_
            intro i hi; simp only [List.mem_cons, List.not_mem_nil, or_false] at hi
            rcases hi with rfl
            · refine ⟨_, rfl, ?_⟩
              try replace Hf := Hf.toBelow hbw9
              have hy := hcl2 w Hf j (by omega)
              refine OPS.val rfl rfl rfl (Ev.load1 (agg_run rfl) rfl hy) ?_
              refine OPS.nil ?_
              refine ⟨(by exact H), ?_⟩
              refine OPH.take 12 rfl rfl rfl rfl (by kernel_rfl) (by kernel_rfl) (by kernel_rfl) rfl (by exact H) (fun w H => (by exact Ev.indexAddr1 (el_run rfl) (size_run rfl) rfl rfl rfl (by omega))) ?_
              refine OPH.all [13] (by kernel_rfl) (by simp) rfl ?_
              intro i hi; simp only [List.mem_cons, List.not_mem_nil, or_false] at hi
              rcases hi with rfl
              · refine ⟨_, rfl, ?_⟩
                refine OPS.store 0 _ rfl rfl rfl (size_run rfl) rfl (cI rfl) rfl rfl Hf rfl (by simp; omega) ?_
                clear H Hf; intro w Hf
                replace Hf : SH w0 S w (⟨g, 3, putL (cur.map I ++ sp) (0 + i) [I (cur.getD j 0)]⟩ :: Lv') := Hf
                rw [set_ints _ _ _ _ (by omega)] at Hf
                have H := Hf.drop (List.nil_sublist _)
                refine OPS.nil ?_
                refine ⟨(by exact H), ?_⟩
                refine OPH.take 14 rfl rfl rfl rfl (by kernel_rfl) (by kernel_rfl) (by kernel_rfl) rfl (by exact H) (fun w H => (by exact Ev.indexAddr1 (el_run rfl) (size_run rfl) rfl rfl rfl (by omega))) ?_
                refine OPH.all [15] (by kernel_rfl) (by simp) rfl ?_
                intro i hi; simp only [List.mem_cons, List.not_mem_nil, or_false] at hi
                rcases hi with rfl
                · refine ⟨_, rfl, ?_⟩
                  refine OPS.store 0 _ rfl rfl rfl (size_run rfl) rfl (cI rfl) rfl rfl Hf rfl (by simp; omega) ?_
                  clear H Hf; intro w Hf
                  replace Hf : SH w0 S w (⟨g, 3, putL ((cur.set i (cur.getD j 0)).map I ++ sp) (0 + j) [I (cur.getD i 0)]⟩ :: Lv') := Hf
                  rw [set_ints _ _ _ _ (by rw [List.length_set]; omega)] at Hf
                  have H := Hf.drop (List.nil_sublist _)
                  refine OPS.nil ?_
                  refine ⟨(by exact H), ?_⟩
                  refine OPH.done (by kernel_rfl) ?_
                  exact ⟨(by repeat (first | exact Agree.refl _ _ | exact Agree.mix _ _ _ | refine Agree.upd rfl ?_ | refine Agree.mix2 rfl ?_)), Hf⟩
        clear H
        rintro u w H
        refine WP.seq ?_
        refine WP.region ?_
        refine OPS.val rfl rfl rfl (Ev.mvS rfl) ?_
        refine OPS.val rfl rfl rfl (Ev.mvI rfl) ?_
        refine OPS.val rfl rfl rfl (Ev.add rfl rfl (by unfold fits; omega)) ?_
        refine OPS.val rfl rfl rfl (Ev.sliceFrom2 (j := i + 1) (el_run rfl) (size_run rfl) rfl rfl rfl (by omega) (by omega)) ?_
        refine OPS.call (d := some 54) rfl rfl rfl (EvC.func (fun_run rfl)) (hrev w (H.own _ List.mem_cons_self)) ?_
        rintro _ w ⟨rfl, Hc⟩
        refine ⟨_, rfl, ?_⟩
        replace H := SH.call (L1 := Lv') (Lv := [⟨g, 3, (swp cur i j).map I ++ sp⟩]) (H.perm (List.perm_append_singleton _ _).symm) Hc
        clear Hc
        have hstl := stepL_len cur i j
        obtain ⟨hst1, hst2, _⟩ := step_ok hlt hjl hfall' hlx hno hndc
        have hen := encL_lex hstl.symm hrgc (fun x hx => hrgc x (hst2.mem_iff.1 hx)) hst1
        have hen2 := encL_lt (l := stepL cur i j) (fun x hx => hrgc x (hst2.mem_iff.1 hx))
        rw [hstl] at hen2
        refine OPS.nil ?_
        refine WP.exit ?_
        refine XB.miss rfl ?_
        refine XB.miss rfl ?_
        refine XB.miss rfl ?_
        refine XB.miss rfl ?_
        refine XB.hit ?_
        exact ⟨(by repeat (first | exact Agree.refl _ _ | exact Agree.mix _ _ _ | refine Agree.upd rfl ?_ | refine Agree.mix2 rfl ?_)), 64 ^ (stepL cur i j).length - encL (stepL cur i j), by rw [hstl]; omega, stepL cur i j, V ++ [cur], Lv', _, rfl, by rw [hstl], hmet.step hlt hjl hfall' hlx hno hndc, ⟨by rw [List.length_map, hstl]; omega, .inr ⟨g, sp, rfl, rfl, by rw [hstl]; exact o1, o2, by rw [List.length_append, List.length_map, hstl]; simpa using o3⟩⟩, hR2, H⟩
      have hlx : ¬ cur.getD i 0 < cur.getD j 0 := by simpa using hc8
      refine WP.skip ?_
      refine WP.region ?_
      refine OPS.val rfl rfl rfl (Ev.mvI rfl) ?_
      refine OPS.val rfl rfl rfl (Ev.sub rfl rfl (by unfold fits; omega)) ?_
      refine OPS.val rfl rfl rfl (Ev.asI rfl) ?_
      refine OPS.nil ?_
      exact ⟨(by repeat (first | exact Agree.refl _ _ | exact Agree.mix _ _ _ | refine Agree.upd rfl ?_ | refine Agree.mix2 rfl ?_)), k6 - 1, by omega, j - 1, by show I ((j : Int) - 1) = _; congr 1; omega, by omega, by omega, by omega, (fun q h1 h2 => by
        by_cases h : q = j
        · subst h; exact hlx
        · exact hno q (by omega) h2), H⟩
    have hij' : j = i := by simp at hc6; omega
    subst hij'
    refine WP.exit ?_
    refine XB.hit ?_
    refine WP.region ?_
    refine OPS.val rfl rfl rfl (Ev.mvI rfl) ?_
    refine OPS.val rfl rfl rfl (Ev.sub rfl rfl (by unfold fits; omega)) ?_
    refine OPS.val rfl rfl rfl (Ev.asI rfl) ?_
    refine OPS.nil ?_
    exact ⟨(by repeat (first | exact Agree.refl _ _ | exact Agree.mix _ _ _ | refine Agree.upd rfl ?_ | refine Agree.mix2 rfl ?_)), k3 - 1, by omega, (j : Int) - 1, rfl, by omega, by omega, by omega, by simpa using fall_more hfall' hno hndc, H⟩
  refine WP.exit ?_
  refine XB.hit ?_
  refine WP.ret ⟨_, rfl, ?_⟩
  have hi1 : i < 0 := by simpa using hc3
  exact ⟨V ++ [cur], Lv', rfl, hmet.done (by rw [show (i + 1).toNat = 0 by omega] at hfall; exact hfall), hR2, H.drop (List.sublist_append_left _ _)⟩
end Go.Proofs.Ytfddebpeiilohaa

/-
  Walks: the best of the orders of some needs.
-/
set_option linter.all false
namespace Go.Proofs.Ytfddebpeiilohaa
open Go Go.W Go.RowKit

theorem or_worse {m d : List Int → Int} {a b : List Int} : orI [cmpI (m a) (m b), cmpI (d b) (d a), cmpLs b a] < 0 ↔ worse m d a b := by
  have hl := cmpLs_neg b a
  unfold worse cmpI orI orI orI orI
  by_cases h1 : m a < m b
  · simp [h1]
  · by_cases h2 : m b < m a
    · simp [h1, h2]; omega
    · have : m a = m b := by omega
      by_cases h3 : d b < d a
      · simp [this, h3]
      · by_cases h4 : d a < d b
        · simp [this, h3, h4]; omega
        · have : d a = d b := by omega
          simp [*]
          by_cases h5 : cmpLs b a = 0
          · simp [h5] at hl ⊢; simpa using hl
          · simp [h5]; exact hl
section
variable (n : Int) (l : List Edg) (ts : List Truck) (ns : List Need) (hd rt : Int)
noncomputable def secsD (o : List Int) : Int := outD n l ts ns hd rt o
noncomputable def feasB (o : List Int) : Bool := decide (walkE n l ts ns hd rt o = 0)
noncomputable def fndV (s : Option (List Int)) (A : Option Addr) (c : Nat) : List Value :=
  match s with
  | none => fndCells none 0 0 0 0 false
  | some x => fndCells A x.length c (mvL ns x) (secsD n l ts ns hd rt x) true
theorem fndV_len (s : Option (List Int)) (A : Option Addr) (c : Nat) : (fndV n l ts ns hd rt s A c).length = 4 := by cases s <;> rfl
def OwnF (s : Option (List Int)) (A : Option Addr) (c : Nat) (Lf : List Blk) : Prop :=
  match s with
  | none => Lf = []
  | some x => OwnS A c x.length (x.map I) 3 1 Lf
noncomputable def takesB (s : Option (List Int)) (y : List Int) : Bool :=
  match s with
  | none => true
  | some x => decide (worse (mvL ns) (secsD n l ts ns hd rt) x y)
theorem betterO (s : Option (List Int)) (A : Option Addr) (c : Nat) (B : Option Addr) (y : List Int) (cb : Nat) (w0 : World) (ha : ∀ x, s = some x → IntsAt w0 A x ∧ x.length ≤ 1000) (hb : IntsAt w0 B y) (hbl : y.length ≤ 1000) :
    Calls Try.prog 28 #[.agg (fndV n l ts ns hd rt s A c).toArray, .agg (fndV n l ts ns hd rt (some y) B cb).toArray] w0 fun e w' => e = .returned (.agg (fndV n l ts ns hd rt (bet (mvL ns) (secsD n l ts ns hd rt) s (some y)) (if takesB n l ts ns hd rt s y = true then B else A) (if takesB n l ts ns hd rt s y = true then cb else c)).toArray) ∧ Below w0.heap.size w0 w' := by
  cases s with
  | none => exact betterN undef undef undef B y.length cb (mvL ns y) (secsD n l ts ns hd rt y) none 0 0 0 0 w0
  | some x =>
    obtain ⟨h1, h2⟩ := ha x rfl
    refine (betterY A x c (mvL ns x) (secsD n l ts ns hd rt x) B y cb (mvL ns y) (secsD n l ts ns hd rt y) w0 h1 hb h2 hbl).mono ?_
    rintro e w' ⟨rfl, hB⟩
    refine ⟨?_, hB⟩
    by_cases h : worse (mvL ns) (secsD n l ts ns hd rt) x y
    · have h' := (or_worse (m := mvL ns) (d := secsD n l ts ns hd rt)).2 h
      have ht : takesB n l ts ns hd rt (some x) y = true := decide_eq_true h
      have hbt : bet (mvL ns) (secsD n l ts ns hd rt) (some x) (some y) = some y := if_pos h
      rw [if_pos h', if_pos ht, if_pos ht, hbt]; rfl
    · have h' := fun q => h ((or_worse (m := mvL ns) (d := secsD n l ts ns hd rt)).1 q)
      have ht : ¬ takesB n l ts ns hd rt (some x) y = true := by simpa [takesB] using h
      have hbt : bet (mvL ns) (secsD n l ts ns hd rt) (some x) (some y) = some x := if_neg h
      rw [if_neg h', if_neg ht, if_neg ht, hbt]; rfl
/-- what the visitor keeps -/
def VisR (wB : World) (g7 : Nat) (s : Option (List Int)) (Lv : List Blk) : Prop :=
  (∀ g ∈ Lv.map (·.g), wB.heap.size ≤ g) ∧ (∀ x, s = some x → x.length ≤ 1000) ∧ ∃ A c Lf, Lv = ⟨g7, 49, fndV n l ts ns hd rt s A c⟩ :: Lf ∧ OwnF s A c Lf
end
end Go.Proofs.Ytfddebpeiilohaa
