/-
  Walk: Cut.
-/
import Derived.Test.YthegjmgljolalaaT10
import Derived.Test.YthegjmgljolalaaM7
import Derived.Test.YthegjmgljolalaaOwn
set_option linter.all false
namespace Go.Proofs.Ythegjmgljolalaa
open Go Go.W Go.RowKit

set_option maxHeartbeats 1000000 in
theorem flowCut (n f t : Int) (A : Option Addr) (l : List Arc) (cap : Nat) (w0 : World) (hz : ArcsAt w0 A l) :
    Calls Try.prog 17 #[.agg #[I n, .slice A l.length cap], I f, I t] w0 fun e w' => ∃ (C : Option Addr) (bs : List Bool), e = .returned (.tuple #[.slice C bs.length bs.length, I (endsErr n l f t)]) ∧
      (endsErr n l f t ≠ 0 → C = none ∧ bs = []) ∧ (endsErr n l f t = 0 → ∃ m s d : Nat, EndsOk n f t l m s d ∧ CutOk m s d l bs) ∧ ∃ Lc, OwnL 4 Bo C bs Lc ∧ SH w0 [] w' Lc := by
  have H := SH.refl w0
  refine Calls.ofWP Try.func17 rfl Try.results17 Try.ntmps17 rfl ?_
  refine WP.seq ?_
  refine WP.region ?_
  refine OPS.box rfl rfl rfl rfl (cA rfl) H ?_
  clear H; intro g3 w H
  refine OPS.val rfl rfl rfl (Ev.asS rfl) ?_
  refine OPS.val rfl rfl rfl (Ev.asI rfl) ?_
  refine OPS.nil ?_
  refine WP.seq ?_
  refine WP.seq ?_
  refine WP.region ?_
  refine OPS.val rfl rfl rfl ((by exact Ev.loadO 0 H rfl (agg_run rfl) (size_run rfl) (by rfl) rfl)) ?_
  refine OPS.val rfl rfl rfl (Ev.mvI rfl) ?_
  refine OPS.val rfl rfl rfl (Ev.mvI rfl) ?_
  refine OPS.call (d := some 17) rfl rfl rfl (EvC.func (fun_run rfl)) (flowEnds n f t A l cap w (hz.sh H)) ?_
  rintro _ w ⟨rfl, hb⟩
  refine ⟨_, rfl, ?_⟩
  replace H := H.toBelow hb; clear hb
  refine OPS.val rfl rfl rfl (Ev.asI rfl) ?_
  refine OPS.nil ?_
  refine WP.seq ?_
  refine WP.region ?_
  refine OPS.val rfl rfl rfl (Ev.mvI rfl) ?_
  refine OPS.val rfl rfl rfl (Ev.neq rfl rfl) ?_
  refine OPS.nil ?_
  refine WP.cond rfl (fun hc2 => ?_) (fun hc2 => ?_)
  · refine WP.seq ?_
    refine WP.region ?_
    refine OPS.val rfl rfl rfl (Ev.mvI rfl) ?_
    refine OPS.val rfl rfl rfl (Ev.asS rfl) ?_
    refine OPS.val rfl rfl rfl (Ev.asI rfl) ?_
    refine OPS.nil ?_
    refine WP.ret ⟨_, rfl, ?_⟩
    have h : endsErr n l f t ≠ 0 := by simpa using hc2
    exact ⟨none, [], rfl, fun _ => ⟨rfl, rfl⟩, fun h0 => absurd h0 h, [], OwnL.nil, H.reidx [] (by decide) rfl⟩
  have h0 : endsErr n l f t = 0 := by simpa using hc2
  obtain ⟨m, s, d, hE⟩ := endsOk_of h0
  have e1 := hE.hn
  have e2 := hE.hf
  have e3 := hE.ht
  subst e1 e2 e3
  have hN := hE.net
  have hn2 := hN.n2
  have hll := hN.len
  refine WP.skip ?_
  refine WP.seq ?_
  refine WP.region ?_
  refine OPS.val rfl rfl rfl ((by exact Ev.loadO 0 H rfl (agg_run rfl) (size_run rfl) (by rfl) rfl)) ?_
  refine OPS.val rfl rfl rfl (Ev.mvI rfl) ?_
  refine OPS.val rfl rfl rfl (Ev.mvI rfl) ?_
  refine OPS.call (d := some 25) rfl rfl rfl (EvC.func (fun_run rfl)) (flowGreatest m s d A l cap w hE.net hE.s1 hE.d1 hE.ne (hz.sh H)) ?_
  rintro _ w ⟨gon, on, amt, rfl, hol, hfl, hmax, Hc⟩
  refine ⟨_, rfl, ?_⟩
  replace H := SH.call (Lv := []) (by simpa using H) Hc
  clear Hc
  have hob : ∀ i (h : i < on.length), 0 ≤ on[i] ∧ on[i] ≤ 65536 := fun i h => by
    have h1 := hfl.v.bd i (by omega) h
    have h2 := (hN.caps l[i] (List.getElem_mem (by omega))).1
    omega
  have hsp := reachFin_spec (s := s) (on := on) hN.nodes hol hE.s1
  have hrs := hsp.resSet hN.nodes
  refine OPS.val rfl rfl rfl (Ev.mvT rfl) ?_
  refine OPS.val rfl rfl rfl (Ev.extract rfl rfl) ?_
  refine OPS.val rfl rfl rfl (Ev.extract rfl rfl) ?_
  refine OPS.alloc rfl rfl rfl rfl (zero_run rfl) rfl H ?_
  clear H; intro g9 w H
  refine OPS.store 0 _ rfl rfl rfl (size_run rfl) rfl (cA rfl) rfl rfl H rfl (by simp) ?_
  clear H; intro w H; try simp only [List.set_cons_zero, List.set_cons_succ, putL, Nat.zero_add] at H
  refine OPS.val rfl rfl rfl (Ev.asI rfl) ?_
  refine OPS.nil ?_
  refine WP.seq ?_
  refine WP.region ?_
  refine OPS.val rfl rfl rfl (Ev.fieldAddr (fld_run rfl) rfl) ?_
  refine OPS.val rfl rfl rfl (Ev.load1 (agg_run rfl) rfl (by exact H.ldL 1 rfl _ rfl)) ?_
  refine OPS.makeSlice rfl rfl rfl rfl (sl_run rfl) rfl rfl rfl (by omega) (by omega) H ?_
  clear H; intro g30 w H
  refine OPS.val rfl rfl rfl (Ev.asS rfl) ?_
  refine OPS.nil ?_
  refine WP.seq ?_
  refine WP.seq ?_
  have hfr := flowReach m s A (some ⟨gon, 0, none⟩) l on cap l.length w hE.s1 hn2 (hz.sh H) (onesOwn H 3 rfl) hol (by omega) (fun i h => by have := hN.caps l[i] (List.getElem_mem h); omega) (fun i h => by have := hob i h; omega) (fun i h => hN.nodes l[i] (List.getElem_mem h))
  rw [hol] at hfr
  refine WP.region ?_
  refine OPS.val rfl rfl rfl ((by exact Ev.loadO 1 H rfl (agg_run rfl) (size_run rfl) (by rfl) rfl)) ?_
  refine OPS.val rfl rfl rfl (Ev.mvI rfl) ?_
  refine OPS.call (d := some 33) rfl rfl rfl (EvC.func (fun_run rfl)) (hfr) ?_
  rintro _ w ⟨ga, rfl, Hc⟩
  refine ⟨_, rfl, ?_⟩
  replace H := SH.call (L1 := [_, _, _, _]) (Lv := []) (by simpa using H) Hc
  clear Hc hfr
  generalize hst2 : reachFin l on m s = sts at H hsp hrs
  replace H := H.reidx (L' := [⟨g30, 4, (List.replicate m false).map Bo⟩, ⟨ga, 60, sts.flatMap stepCells⟩]) [0, 4] (by decide) (by rw [← mkL_ones]; rfl)
  have hsl := hsp.len
  have hbl : (sts.map (·.known)).length = (List.replicate m false).length := by simp [hsl]
  have hbl2 : (sts.map (·.known)).length = m := by simp [hsl]
  refine OPS.val rfl rfl rfl (Ev.len (el_run rfl) rfl) ?_
  refine OPS.val rfl rfl rfl (Ev.mvI rfl) ?_
  refine OPS.nil ?_
  refine WP.block ?_
  refine WP.loop [12, 13, 35, 36, 37, 38, 39, 40, 41, 42, 43, 44, 45] (fun k e w' => ∃ q : Nat, q + k = m ∧ e 35 = I q ∧ SH w0 [] w' [⟨g30, 4, (mixL (sts.map (·.known)) (List.replicate m false) q).map Bo⟩, ⟨ga, 60, sts.flatMap stepCells⟩]) (m) (⟨0, by omega, rfl, by rw [mixL_zero]; exact H⟩) ?_
  clear H
  rintro k u w ⟨q, hq, h35, H⟩
  refine WP.know (t := 35) h35 ?_
  refine WP.seq ?_
  refine WP.region ?_
  refine OPS.val rfl rfl rfl (Ev.lss rfl rfl) ?_
  refine OPS.nil ?_
  refine WP.seq ?_
  refine WP.cond rfl (fun hc7 => ?_) (fun hc7 => ?_)
  · have hqm : q < m := by simpa using hc7
    obtain ⟨_, _, e1, hrow⟩ := rowsOwn' stepCells_len H 1 rfl q (by omega)
    cases e1
    have hml : (mixL (sts.map (·.known)) (List.replicate m false) q).length = m := by rw [mixL_length hbl (by omega)]; omega
    have hms := mixL_set (m := List.replicate m false) hbl (show q < (sts.map (·.known)).length by omega)
    rw [List.getElem_map] at hms
    refine WP.skip ?_
    refine WP.seq ?_
    refine WP.block ?_
    refine WP.seq ?_
    refine WP.region ?_
    refine OPS.val rfl rfl rfl (Ev.mvI rfl) ?_
    refine OPS.val rfl rfl rfl ((by exact Ev.indexAddr (el_run rfl) (size_run rfl) rfl rfl rfl (by omega))) ?_
    refine OPS.val rfl rfl rfl ((by (change Ev _ _ _ _ (Op.load 60 (Operand.tmp 38)) _; exact Ev.loadN (stepCells sts[q]) (agg_run rfl) (size_run rfl) rfl hrow))) ?_
    refine OPS.alloc rfl rfl rfl rfl (zero_run rfl) rfl H ?_
    clear H; intro g13 w H
    refine OPS.val rfl rfl rfl (Ev.asI rfl) ?_
    refine OPS.store 0 _ rfl rfl rfl (size_run rfl) rfl (cA rfl) rfl rfl H rfl (by simp) ?_
    clear H; intro w H; try simp only [List.set_cons_zero, List.set_cons_succ, putL, Nat.zero_add] at H
    refine OPS.nil ?_
    refine WP.region ?_
    refine OPS.val rfl rfl rfl (Ev.mvS rfl) ?_
    refine OPS.val rfl rfl rfl (Ev.mvI rfl) ?_
    refine OPS.val rfl rfl rfl (Ev.fieldAddr (fld_run rfl) rfl) ?_
    refine OPS.val rfl rfl rfl (Ev.load1 (agg_run rfl) rfl (by exact H.ldL 0 rfl _ rfl)) ?_
    refine OPS.val rfl rfl rfl ((by exact Ev.indexAddr1 (el_run rfl) (size_run rfl) rfl rfl rfl (by omega))) ?_
    have hpu : putL ((mixL (sts.map (·.known)) (List.replicate m false) q).map Bo) (0 + q) [Bo sts[q].known] = (mixL (sts.map (·.known)) (List.replicate m false) (q + 1)).map Bo := by rw [Nat.zero_add, putL_ones, hms]
    refine OPS.store (vs := [Bo sts[q].known]) 1 _ rfl rfl rfl (size_run rfl) rfl (cB rfl) rfl rfl H rfl (by simp only [List.length_map, hml]; omega) ?_
    clear H; intro w H
    simp only [List.set_cons_zero, List.set_cons_succ] at H
    rw [hpu] at H
    refine OPS.nil ?_
    refine WP.region ?_
    refine OPS.val rfl rfl rfl (Ev.add rfl rfl (by unfold fits; omega)) ?_
    refine OPS.val rfl rfl rfl (Ev.mvI rfl) ?_
    refine OPS.nil ?_
    exact ⟨(by repeat (first | exact Agree.refl _ _ | exact Agree.mix _ _ _ | refine Agree.upd rfl ?_ | refine Agree.mix2 rfl ?_)), k - 1, by omega, q + 1, by omega, rfl, H.drop (List.sublist_cons_self _ _)⟩
  refine WP.exit ?_
  refine XB.hit ?_
  refine WP.seq ?_
  refine WP.region ?_
  refine OPS.val rfl rfl rfl (Ev.mvS rfl) ?_
  refine OPS.val rfl rfl rfl (Ev.asS rfl) ?_
  refine OPS.val rfl rfl rfl (Ev.asI rfl) ?_
  refine OPS.nil ?_
  refine WP.ret ⟨_, rfl, ?_⟩
  have hqm : q = m := by simp at hc7; omega
  have hma : mixL (sts.map (·.known)) (List.replicate m false) m = sts.map (·.known) := by
    have h := mixL_all hbl
    rw [hbl2] at h
    exact h
  rw [hqm, hma] at H
  have hR : ∀ v, v < m → (sts.map (·.known)).getD v false = kn sts v := fun v hv => by simp [kn, hsl, hv]
  refine ⟨some ⟨g30, 0, none⟩, sts.map (·.known), by rw [hbl2, h0]; rfl, fun h => absurd h0 h, fun _ => ⟨m, s, d, hE, hbl2, on, amt, kn sts, hfl, hmax, hrs, ?_, hR⟩, _, OwnL.mk g30 _, H.reidx [0] (by decide) rfl⟩
  cases hk : kn sts d with
  | false => rfl
  | true =>
    obtain ⟨ks, hkl, hP⟩ := path_of hsp.tree m d hE.d1 hk (hsp.pos d hE.d1 hk).2
    obtain ⟨m1, m2, m3⟩ := pushMin_spec sts ks 65536 (by omega) fun x hx => by obtain ⟨p, _, hEd⟩ := hP.edge x hx; exact hEd.room_pos
    have hfl2 := push_isFlow (by omega) hE.ne hP m3 hfl
    obtain ⟨_, S, q1, q2, q3⟩ := hmax
    have := weak_dual hfl2 hN.nodes ⟨by omega, by have := hE.s1; omega⟩ q1 q2
    omega
end Go.Proofs.Ythegjmgljolalaa
