/-
  Walks: short, driving.
-/
import Derived.Test.YtgjfjbphngamgaaB7
import Derived.Test.YtgjfjbphngamgaaRM4
set_option linter.all false
namespace Go.Proofs.Ytgjfjbphngamgaa
open Go Go.W Go.RowKit

def shortB (rs : List Rt) (ll : Nat) : Bool := decide (∀ r ∈ rs, r.nd.l.length ≤ 40) && (decide (rs.length ≤ 20) && decide (ll ≤ 40))
theorem lawShort (P F : Option Addr) (rs : List Rt) (ll cp cf : Nat) (w0 : World) (hP : RowsAt 2 rtCells w0 P rs) (hfew : rs.length ≤ maxLen) :
    Calls Try.prog 17 #[.agg #[.slice P rs.length cp, .slice F ll cf]] w0 fun e w' => e = .returned (.bool (shortB rs ll)) ∧ Below w0.heap.size w0 w' := by
  have H := SH.refl w0
  unfold maxLen at hfew
  refine Calls.ofWP Try.func17 rfl Try.results17 Try.ntmps17 rfl ?_
  refine WP.seq ?_
  refine WP.region ?_
  refine OPS.box rfl rfl rfl rfl (cA rfl) H ?_
  clear H; intro g1 w H
  refine OPS.val rfl rfl rfl (Ev.asB rfl) ?_
  refine OPS.nil ?_
  refine WP.seq ?_
  refine WP.seq ?_
  refine WP.region ?_
  refine OPS.val rfl rfl rfl (Ev.asI rfl) ?_
  refine OPS.nil ?_
  refine WP.block ?_
  refine WP.loop [2, 3, 4, 5, 6, 7, 8, 9, 10, 11, 12, 13, 14, 15, 16, 17, 18] (fun k e w' => ∃ j : Nat, j + k = rs.length ∧ e 3 = I j ∧ (∀ i (hi : i < rs.length), i < j → rs[i].nd.l.length ≤ 40) ∧ SH w0 [] w' [⟨g1, 52, [.slice P rs.length cp, .slice F ll cf]⟩]) (rs.length) (⟨0, by omega, rfl, fun i _ h => absurd h (by omega), H⟩) ?_
  clear H
  rintro k u w ⟨j, hk, h3, hall, H⟩
  refine WP.know (t := 3) h3 ?_
  refine WP.seq ?_
  refine WP.seq ?_
  refine WP.region ?_
  refine OPS.val rfl rfl rfl (Ev.mvI rfl) ?_
  refine OPS.val rfl rfl rfl (Ev.fieldAddr (fld_run rfl) rfl) ?_
  refine OPS.val rfl rfl rfl (Ev.load1 (agg_run rfl) rfl (by exact H.ldL 0 rfl _ rfl)) ?_
  refine OPS.val rfl rfl rfl (Ev.len (el_run rfl) rfl) ?_
  refine OPS.val rfl rfl rfl (Ev.lss rfl rfl) ?_
  refine OPS.nil ?_
  refine WP.cond rfl (fun hc2 => ?_) (fun hc2 => ?_)
  · have hlt : j < rs.length := by simpa using hc2
    obtain ⟨b, o, rfl, hc⟩ := hP j hlt
    have hci : w0.cell? ⟨b, o + j * 2 + 1, none⟩ = some (.slice rs[j].nd.A rs[j].nd.l.length rs[j].nd.cap) := hc.2.1
    refine WP.skip ?_
    refine WP.seq ?_
    refine WP.block ?_
    refine WP.seq ?_
    refine WP.region ?_
    refine OPS.val rfl rfl rfl (Ev.fieldAddr (fld_run rfl) rfl) ?_
    refine OPS.val rfl rfl rfl (Ev.load1 (agg_run rfl) rfl (by exact H.ldL 0 rfl _ rfl)) ?_
    refine OPS.val rfl rfl rfl (Ev.mvI rfl) ?_
    refine OPS.val rfl rfl rfl ((by exact Ev.indexAddr (el_run rfl) (size_run rfl) rfl rfl rfl (by omega))) ?_
    refine OPS.val rfl rfl rfl (Ev.fieldAddr (fld_run rfl) rfl) ?_
    refine OPS.val rfl rfl rfl (Ev.load1 (agg_run rfl) rfl (by exact H.ld0 (by assumption))) ?_
    refine OPS.val rfl rfl rfl (Ev.len (el_run rfl) rfl) ?_
    refine OPS.val rfl rfl rfl (Ev.gtr rfl rfl) ?_
    refine OPS.nil ?_
    refine WP.cond rfl (fun hc4 => ?_) (fun hc4 => ?_)
    · refine WP.seq ?_
      refine WP.region ?_
      refine OPS.val rfl rfl rfl (Ev.asB rfl) ?_
      refine OPS.nil ?_
      refine WP.ret ⟨_, rfl, ?_⟩
      have h : ¬ rs[j].nd.l.length ≤ 40 := by simp at hc4; omega
      have e : shortB rs ll = false := by
        have e2 : decide (∀ r ∈ rs, r.nd.l.length ≤ 40) = false := decide_eq_false (fun hx => h (hx _ (List.getElem_mem hlt)))
        rw [shortB, e2]; rfl
      exact ⟨by rw [e]; rfl, H.below⟩
    refine WP.skip ?_
    refine WP.region ?_
    refine OPS.val rfl rfl rfl (Ev.mvI rfl) ?_
    refine OPS.val rfl rfl rfl (Ev.add rfl rfl (by unfold fits; omega)) ?_
    refine OPS.val rfl rfl rfl (Ev.asI rfl) ?_
    refine OPS.nil ?_
    have h : rs[j].nd.l.length ≤ 40 := by simp at hc4; omega
    refine ⟨(by repeat (first | exact Agree.refl _ _ | exact Agree.mix _ _ _ | refine Agree.upd rfl ?_ | refine Agree.mix2 rfl ?_)), k - 1, by omega, j + 1, by omega, rfl, fun i hi hij => ?_, H⟩
    rcases Nat.lt_succ_iff_lt_or_eq.1 hij with h2 | rfl
    · exact hall i hi h2
    · exact h
  have hj : j = rs.length := by simp at hc2; omega
  have hA : ∀ r ∈ rs, r.nd.l.length ≤ 40 := fun r hr => by
    obtain ⟨i, hi, rfl⟩ := List.getElem_of_mem hr
    exact hall i hi (by omega)
  have e : shortB rs ll = (decide ((rs.length : Int) ≤ 20) && decide ((ll : Int) ≤ 40)) := by
    unfold shortB; rw [decide_eq_true hA, Bool.true_and]
    congr 1 <;> exact decide_eq_decide.2 (by omega)
  refine WP.exit ?_
  refine XB.hit ?_
  refine WP.seq ?_
  refine WP.region ?_
  refine OPS.val rfl rfl rfl (Ev.fieldAddr (fld_run rfl) rfl) ?_
  refine OPS.val rfl rfl rfl (Ev.load1 (agg_run rfl) rfl (by exact H.ldL 0 rfl _ rfl)) ?_
  refine OPS.val rfl rfl rfl (Ev.len (el_run rfl) rfl) ?_
  refine OPS.val rfl rfl rfl (Ev.leq rfl rfl) ?_
  refine OPS.val rfl rfl rfl (Ev.mvB rfl) ?_
  refine OPS.gval rfl rfl rfl rfl rfl (fun hg => Ev.fieldAddr (fld_run rfl) (by rfl)) ?_
  refine OPS.gval rfl rfl rfl rfl rfl (fun hg => Ev.load1 (agg_run rfl) (by exact gvE hg rfl) (by exact H.ldL 0 rfl _ rfl)) ?_
  refine OPS.gval rfl rfl rfl rfl rfl (fun hg => Ev.len (el_run rfl) (by exact gvE hg rfl)) ?_
  refine OPS.gval rfl rfl rfl rfl rfl (fun hg => Ev.leq (by exact gvE hg rfl) (by rfl)) ?_
  refine OPS.val rfl rfl rfl ((by exact Ev.pickAnd rfl rfl rfl)) ?_
  refine OPS.val rfl rfl rfl (Ev.asB rfl) ?_
  refine OPS.nil ?_
  refine WP.ret ⟨_, rfl, ?_⟩
  exact ⟨by rw [e]; rfl, H.below⟩
noncomputable def drvL (n : Int) (l : List Edg) (ts : List Truck) (ns : List Need) (hd : Int) (rs : List Rt) : Int := (rs.map fun r => outD n l ts ns hd r.trk r.nd.l).sum
theorem drvL_succ {n hd : Int} {l : List Edg} {ts : List Truck} {ns : List Need} {rs : List Rt} {j : Nat} (hj : j < rs.length) : drvL n l ts ns hd (rs.take (j + 1)) = drvL n l ts ns hd (rs.take j) + outD n l ts ns hd rs[j].trk rs[j].nd.l := by
  rw [List.take_succ_eq_append_getElem hj]; unfold drvL; rw [List.map_append, List.sum_append, List.map_cons, List.map_nil, List.sum_cons, List.sum_nil, Int.add_zero]
theorem outD_bd {n hd rt : Int} {l : List Edg} {ts : List Truck} {ns : List Need} {rn : List Int} (h : walkE n l ts ns hd rt rn = 0) : 0 ≤ outD n l ts ns hd rt rn ∧ outD n l ts ns hd rt rn ≤ 2000000 := by
  obtain ⟨m, q, t, rfl, rfl, hW⟩ := walkOk_of h
  have h1 := hW.ts rn.length (Nat.le_refl _)
  rw [List.take_length] at h1
  have h2 := nodup_len hW.nd hW.hr
  have h3 := hW.night.nl
  obtain ⟨dv, hdv⟩ := Int.eq_ofNat_of_zero_le hW.tr.1.1
  have hdm := hW.tr.1.2
  have h4 := roadT_bd (v := t.depot.toNat) hW.night.road h1.at_ (by omega)
  have h5 : 0 ≤ roadT m l (goT (roadD m l) hd ns rn (startT t)).at_ t.depot.toNat := by
    have := hW.home
    unfold homeE at this
    split at this
    · cases this
    · omega
  have h6 := h1.driven
  rw [hW.D]
  omega
set_option maxHeartbeats 1000000 in
theorem lawDriving (n hd : Int) (A B C P F : Option Addr) (l : List Edg) (ts : List Truck) (ns : List Need) (rs : List Rt) (left : List Int) (ca cb cc cp cf : Nat) (w0 : World) (hN : NightAt w0 A B C l ts ns cc)
    (hP : RtsAt w0 P rs) (hF : IntsAt w0 F left) (hfl : left.length ≤ 1000) (hnl : ns.length ≤ 1000) :
    Calls Try.prog 18 #[.agg #[I n, .slice A l.length ca, .slice B ts.length cb, .slice C ns.length cc, I hd], .agg #[.slice P rs.length cp, .slice F left.length cf]] w0 fun e w' =>
      e = .returned (.tuple #[I (if planErr n l ts ns hd rs left = 0 ∧ left = [] then drvL n l ts ns hd rs else 0), .bool (decide (planErr n l ts ns hd rs left = 0 ∧ left = []))]) ∧ Below w0.heap.size w0 w' := by
  have H := SH.refl w0
  have hfew := hP.few
  refine Calls.ofWP Try.func18 rfl Try.results18 Try.ntmps18 rfl ?_
  refine WP.seq ?_
  refine WP.region ?_
  refine OPS.box rfl rfl rfl rfl (cA rfl) H ?_
  clear H; intro g2 w H
  refine OPS.box rfl rfl rfl rfl (cA rfl) H ?_
  clear H; intro g3 w H
  refine OPS.val rfl rfl rfl (Ev.asI rfl) ?_
  refine OPS.val rfl rfl rfl (Ev.asB rfl) ?_
  refine OPS.nil ?_
  refine WP.seq ?_
  refine WP.seq ?_
  refine WP.region ?_
  refine OPS.val rfl rfl rfl ((by exact Ev.loadO 1 H rfl (agg_run rfl) (size_run rfl) (by rfl) rfl)) ?_
  refine OPS.val rfl rfl rfl ((by exact Ev.loadO 0 H rfl (agg_run rfl) (size_run rfl) (by rfl) rfl)) ?_
  refine OPS.call (d := some 12) rfl rfl rfl (EvC.func (fun_run rfl)) (truckFeasible n hd A B C P F l ts ns rs left ca cb cc cp cf w (hN.sh H).l (hN.sh H).t (hN.sh H).n hN.c (hP.sh H) (hF.sh H) hfl hnl) ?_
  rintro _ w ⟨rfl, hb⟩
  refine ⟨_, rfl, ?_⟩
  replace H := H.toBelow hb; clear hb
  refine OPS.val rfl rfl rfl (Ev.neq rfl rfl) ?_
  refine OPS.val rfl rfl rfl (Ev.mvB rfl) ?_
  refine OPS.gval rfl rfl rfl rfl rfl (fun hg => Ev.fieldAddr (fld_run rfl) (by rfl)) ?_
  refine OPS.gval rfl rfl rfl rfl rfl (fun hg => Ev.load1 (agg_run rfl) (by exact gvE hg rfl) (by exact H.ldL 0 rfl _ rfl)) ?_
  refine OPS.gval rfl rfl rfl rfl rfl (fun hg => Ev.len (el_run rfl) (by exact gvE hg rfl)) ?_
  refine OPS.gval rfl rfl rfl rfl rfl (fun hg => Ev.gtr (by exact gvE hg rfl) (by rfl)) ?_
  refine OPS.val rfl rfl rfl ((by exact Ev.pickOr rfl rfl rfl)) ?_
  refine OPS.nil ?_
  refine WP.cond rfl (fun hc1 => ?_) (fun hc1 => ?_)
  · refine WP.seq ?_
    refine WP.region ?_
    refine OPS.val rfl rfl rfl (Ev.asI rfl) ?_
    refine OPS.val rfl rfl rfl (Ev.asB rfl) ?_
    refine OPS.nil ?_
    refine WP.ret ⟨_, rfl, ?_⟩
    have h : ¬ (planErr n l ts ns hd rs left = 0 ∧ left = []) := by
      rintro ⟨h1, h2⟩
      rw [h1, h2] at hc1
      simp at hc1
    exact ⟨by rw [if_neg h, decide_eq_false h]; rfl, H.below⟩
  have hg : planErr n l ts ns hd rs left = 0 ∧ left = [] := by simpa using hc1
  have hK := planOk_of hg.1
  rw [if_pos hg, decide_eq_true hg]
  refine WP.skip ?_
  refine WP.seq ?_
  refine WP.region ?_
  refine OPS.val rfl rfl rfl (Ev.asI rfl) ?_
  refine OPS.nil ?_
  refine WP.seq ?_
  refine WP.seq ?_
  refine WP.region ?_
  refine OPS.val rfl rfl rfl (Ev.asI rfl) ?_
  refine OPS.nil ?_
  refine WP.block ?_
  refine WP.loop [4, 5, 6, 7, 8, 9, 20, 21, 22, 23, 24, 25, 26, 27, 28, 29, 30, 31, 32, 33, 34, 35, 36, 37, 38, 39, 40, 41] (fun k e w' => ∃ j : Nat, j + k = rs.length ∧ e 7 = I j ∧ e 6 = I (drvL n l ts ns hd (rs.take j)) ∧ (0 ≤ drvL n l ts ns hd (rs.take j) ∧ drvL n l ts ns hd (rs.take j) ≤ 2000000 * j) ∧ SH w0 [] w' [⟨g3, 52, [.slice P rs.length cp, .slice F left.length cf]⟩, ⟨g2, 28, [I n, .slice A l.length ca, .slice B ts.length cb, .slice C ns.length cc, I hd]⟩]) (rs.length) (⟨0, by omega, rfl, rfl, by simp [drvL], H⟩) ?_
  clear H
  rintro k u w ⟨j, hk, h7, h6, hbd, H⟩
  refine WP.know (t := 7) h7 (WP.know (t := 6) h6 ?_)
  refine WP.seq ?_
  refine WP.seq ?_
  refine WP.region ?_
  refine OPS.val rfl rfl rfl (Ev.mvI rfl) ?_
  refine OPS.val rfl rfl rfl (Ev.fieldAddr (fld_run rfl) rfl) ?_
  refine OPS.val rfl rfl rfl (Ev.load1 (agg_run rfl) rfl (by exact H.ldL 0 rfl _ rfl)) ?_
  refine OPS.val rfl rfl rfl (Ev.len (el_run rfl) rfl) ?_
  refine OPS.val rfl rfl rfl (Ev.lss rfl rfl) ?_
  refine OPS.nil ?_
  refine WP.cond rfl (fun hc5 => ?_) (fun hc5 => ?_)
  · have hlt : j < rs.length := by simpa using hc5
    obtain ⟨b, o, rfl, hc⟩ := hP.rows j hlt
    have hr := hP.ints rs[j] (List.getElem_mem hlt)
    have hrl := hP.len rs[j] (List.getElem_mem hlt)
    have hrc := hP.cap rs[j] (List.getElem_mem hlt)
    have hE := hK.walks j hlt
    have hob := outD_bd hE
    refine WP.skip ?_
    refine WP.seq ?_
    refine WP.block ?_
    refine WP.seq ?_
    refine WP.rheldC [8, 9, 27, 28, 29, 30, 31, 32, 33, 34, 35, 36] (fun u w' => u 8 = I (outD n l ts ns hd rs[j].trk rs[j].nd.l) ∧ u 9 = I (walkE n l ts ns hd rs[j].trk rs[j].nd.l) ∧ SH w0 [] w' [⟨g3, 52, [.slice (some ⟨b, o, none⟩) rs.length cp, .slice F left.length cf]⟩, ⟨g2, 28, [I n, .slice A l.length ca, .slice B ts.length cb, .slice C ns.length cc, I hd]⟩]) mixed H ?_ ?_
    · clear H; intro w hbw7 H
      refine OPH.take 0 rfl rfl rfl rfl (by kernel_rfl) (by kernel_rfl) (by kernel_rfl) rfl (by exact H) (fun w H => (by exact Ev.loadO 1 H rfl (agg_run rfl) (size_run rfl) (by rfl) rfl)) ?_
      refine OPH.take 1 rfl rfl rfl rfl (by kernel_rfl) (by kernel_rfl) (by kernel_rfl) rfl (by exact H) (fun w H => Ev.fieldAddr (fld_run rfl) rfl) ?_
      refine OPH.take 2 rfl rfl rfl rfl (by kernel_rfl) (by kernel_rfl) (by kernel_rfl) rfl (by exact H) (fun w H => Ev.load1 (agg_run rfl) rfl (by exact H.ldL 0 rfl _ rfl)) ?_
      refine OPH.take 3 rfl rfl rfl rfl (by kernel_rfl) (by kernel_rfl) (by kernel_rfl) rfl (by exact H) (fun w H => Ev.mvI rfl) ?_
      refine OPH.take 4 rfl rfl rfl rfl (by kernel_rfl) (by kernel_rfl) (by kernel_rfl) rfl (by exact H) (fun w H => (by exact Ev.indexAddr (el_run rfl) (size_run rfl) rfl rfl rfl (by omega))) ?_
      refine OPH.take 5 rfl rfl rfl rfl (by kernel_rfl) (by kernel_rfl) (by kernel_rfl) rfl (by exact H) (fun w H => Ev.loadN (rtCells rs[j]) (agg_run rfl) (size_run rfl) rfl (cellsAt_sh H hc)) ?_
      refine OPH.all [6] (by kernel_rfl) (by simp) rfl ?_
      intro i hi; simp only [List.mem_cons, List.not_mem_nil, or_false] at hi
      rcases hi with rfl
      · refine ⟨_, rfl, ?_⟩
        refine OPS.call (d := some 34) rfl rfl rfl (EvC.func (fun_run rfl)) (truckDriving n hd rs[j].trk A B C rs[j].nd.A l ts ns rs[j].nd.l ca cb cc rs[j].nd.cap _ (hN.sh H).l (hN.sh H).t (hN.sh H).n hN.c (hr.sh H) (by unfold maxLen; omega) hrc) ?_
        rintro _ w ⟨rfl, hb⟩
        refine ⟨_, rfl, ?_⟩
        replace H := H.toBelow hb
        clear hb
        refine OPS.nil ?_
        refine ⟨(by exact H), ?_⟩
        refine OPH.take 7 rfl rfl rfl rfl (by kernel_rfl) (by kernel_rfl) (by kernel_rfl) rfl (by exact H) (fun w H => Ev.mvT rfl) ?_
        refine OPH.take 8 rfl rfl rfl rfl (by kernel_rfl) (by kernel_rfl) (by kernel_rfl) rfl (by exact H) (fun w H => Ev.extract rfl rfl) ?_
        refine OPH.take 9 rfl rfl rfl rfl (by kernel_rfl) (by kernel_rfl) (by kernel_rfl) rfl (by exact H) (fun w H => Ev.extract rfl rfl) ?_
        refine OPH.take 10 rfl rfl rfl rfl (by kernel_rfl) (by kernel_rfl) (by kernel_rfl) rfl (by exact H) (fun w H => Ev.asI rfl) ?_
        refine OPH.take 11 rfl rfl rfl rfl (by kernel_rfl) (by kernel_rfl) (by kernel_rfl) rfl (by exact H) (fun w H => Ev.asI rfl) ?_
        refine OPH.done (by kernel_rfl) ?_
        exact ⟨(by repeat (first | exact Agree.refl _ _ | exact Agree.mix _ _ _ | refine Agree.upd rfl ?_ | refine Agree.mix2 rfl ?_)), rfl, rfl, H⟩
    clear H
    rintro u w ⟨h8, h9, H⟩
    refine WP.know (t := 8) h8 (WP.know (t := 9) h9 ?_)
    refine WP.seq ?_
    refine WP.seq ?_
    refine WP.region ?_
    refine OPS.val rfl rfl rfl (Ev.mvI rfl) ?_
    refine OPS.val rfl rfl rfl (Ev.neq rfl rfl) ?_
    refine OPS.nil ?_
    refine WP.cond rfl (fun hc8 => ?_) (fun hc8 => ?_)
    · refine WP.seq ?_
      refine WP.region ?_
      refine OPS.val rfl rfl rfl (Ev.asI rfl) ?_
      refine OPS.val rfl rfl rfl (Ev.asB rfl) ?_
      refine OPS.nil ?_
      refine WP.ret ⟨_, rfl, ?_⟩
      exact absurd hc8 (by simp [hE])
    refine WP.skip ?_
    refine WP.region ?_
    refine OPS.val rfl rfl rfl (Ev.mvI rfl) ?_
    refine OPS.val rfl rfl rfl (Ev.mvI rfl) ?_
    refine OPS.val rfl rfl rfl (Ev.add rfl rfl (by unfold fits; omega)) ?_
    refine OPS.val rfl rfl rfl (Ev.asI rfl) ?_
    refine OPS.nil ?_
    refine WP.region ?_
    refine OPS.val rfl rfl rfl (Ev.mvI rfl) ?_
    refine OPS.val rfl rfl rfl (Ev.add rfl rfl (by unfold fits; omega)) ?_
    refine OPS.val rfl rfl rfl (Ev.asI rfl) ?_
    refine OPS.nil ?_
    exact ⟨(by repeat (first | exact Agree.refl _ _ | exact Agree.mix _ _ _ | refine Agree.upd rfl ?_ | refine Agree.mix2 rfl ?_)), k - 1, by omega, j + 1, by omega, rfl, by rw [drvL_succ hlt]; rfl, by rw [drvL_succ hlt]; omega, H⟩
  have hj : j = rs.length := by simp at hc5; omega
  subst hj
  rw [List.take_length]
  refine WP.exit ?_
  refine XB.hit ?_
  refine WP.seq ?_
  refine WP.region ?_
  refine OPS.val rfl rfl rfl (Ev.mvI rfl) ?_
  refine OPS.val rfl rfl rfl (Ev.asI rfl) ?_
  refine OPS.val rfl rfl rfl (Ev.asB rfl) ?_
  refine OPS.nil ?_
  refine WP.ret ⟨_, rfl, ?_⟩
  exact ⟨rfl, H.below⟩
end Go.Proofs.Ytgjfjbphngamgaa
